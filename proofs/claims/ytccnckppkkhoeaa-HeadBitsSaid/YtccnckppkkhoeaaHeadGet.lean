/- Contracts of head.Get and of the document's GetHead: what each call answers, for every string. -/
import Derived.Test.YtccnckppkkhoeaaHeadMay
import Derived.Lib.QuietBelow
import Derived.BigQuiet
import Derived.BigRegion
import Derived.RegionTactic
import Derived.Deep.RegionHeld3
import Derived.Lib.Hide
namespace Go.Proofs.Ytccnckppkkhoeaa.Hd
open Go.RowKit Go.PlainAid Go.Proofs.Ytccnckppkkhoeaa.Base Go.Proofs.Ytccnckppkkhoeaa.Oct
set_option linter.unusedVariables false

def bitB (f : Int) (k : Int) : Bool := Go.bits .and .i64 (f / 2 ^ k.toNat) 1 == 1
theorem bitB15 (f : Int) : bitB f 15 = (Go.bits .and .i64 (f / 32768) 1 == 1) := rfl
theorem bitB10 (f : Int) : bitB f 10 = (Go.bits .and .i64 (f / 1024) 1 == 1) := rfl
theorem bitB9 (f : Int) : bitB f 9 = (Go.bits .and .i64 (f / 512) 1 == 1) := rfl
theorem bitB8 (f : Int) : bitB f 8 = (Go.bits .and .i64 (f / 256) 1 == 1) := rfl
theorem bitB7 (f : Int) : bitB f 7 = (Go.bits .and .i64 (f / 128) 1 == 1) := rfl
/-- The header that twelve bytes are. -/
def getH (s : ByteArray) : Head := ⟨be2 s 0, bitB (be2 s 2) 15, Go.bits .and .i64 (be2 s 2 / 2048) 15, bitB (be2 s 2) 10, bitB (be2 s 2) 9, bitB (be2 s 2) 8, bitB (be2 s 2) 7, Go.bits .and .i64 (be2 s 2 / 16) 7, Go.bits .and .i64 (be2 s 2) 15⟩
def getC (s : ByteArray) : Value := arr4 (be2 s 4) (be2 s 6) (be2 s 8) (be2 s 10)
def head0 : Head := ⟨0, false, 0, false, false, false, false, 0, 0⟩
set_option maxHeartbeats 2000000 in
theorem rget_yes (s : ByteArray) (w : World) (hs : s.size ≤ 9223372036854775000) (h : 12 ≤ s.size) :
    Calls Try.prog 27 #[.string s] w fun e w' => e = .returned (.tuple #[(getH s).val, getC s, .int .i64 0]) ∧ Below w.heap.size w w' := by
  have q : decide ((s.size : Int) < 12) = false := by simp; omega
  go_enter Try.func27, Try.ntmps27
  go_wp2_with (go_at_call 17; refine (rnum2z s _ _ hs (by omega) (by omega)).mono ?_; rintro e w' ⟨rfl, rfl⟩)
  refine wp_loop_rounds 5 ?_
  repeat (rw [rounds_succ]; go_wp2_with (go_at_call 17; refine (rnum2z s _ _ hs (by omega) (by omega)).mono ?_; rintro e w' ⟨rfl, rfl⟩))
  go_region
  go_wp2
  exact bodyPost_ret (v := .tuple #[(getH s).val, getC s, .int .i64 0]) (by simp [results, Try.results27, go_sem, getH, getC, Head.val, arr4, bitB15, bitB10, bitB9, bitB8, bitB7]) rfl ⟨rfl, below_drew (below_alloc (below_alloc (below_alloc (Below.refl _ _) _) _) _)⟩
set_option maxHeartbeats 2000000 in
theorem rget_no (s : ByteArray) (w : World) (h : s.size < 12) :
    Calls Try.prog 27 #[.string s] w fun e w' => e = .returned (.tuple #[head0.val, arr4 0 0 0 0, .int .i64 600]) ∧ Below w.heap.size w w' := by
  have q : decide ((s.size : Int) < 12) = true := by simp; omega
  go_enter Try.func27, Try.ntmps27
  go_wp2
  go_region
  go_wp2
  exact bodyPost_ret (v := .tuple #[head0.val, arr4 0 0 0 0, .int .i64 600]) (by simp [results, Try.results27, go_sem, head0, Head.val, arr4]) rfl ⟨rfl, below_drew (below_alloc (below_alloc (below_alloc (Below.refl _ _) _) _) _)⟩
set_option maxHeartbeats 2000000 in
theorem get_no (s : ByteArray) (w : World) (h : s.size < 12) :
    Calls Try.prog 26 #[.string s] w fun e w' => e = .returned (.tuple #[head0.val, arr4 0 0 0 0, .int .i64 600]) ∧ Below w.heap.size w w' := by
  have q : decide ((s.size : Int) < 12) = true := by simp; omega
  go_enter Try.func26, Try.ntmps26
  go_wp2
  go_region
  go_wp2
  exact bodyPost_ret (v := .tuple #[head0.val, arr4 0 0 0 0, .int .i64 600]) (by simp [results, Try.results26, go_sem, head0, Head.val, arr4]) rfl ⟨rfl, below_drew (below_alloc (below_alloc (below_alloc (Below.refl _ _) _) _) _)⟩

/-! ### Get: the closure that looks at a bit -/
set_option maxHeartbeats 400000 in
theorem is_any (f k : Int) (g : Nat) (w : World) (hc : w.cell? ⟨g, 0, none⟩ = some (.int .i64 f)) (hk : k = 15 ∨ k = 10 ∨ k = 9 ∨ k = 8 ∨ k = 7) :
    Calls Try.prog 44 #[.int .i64 k, .pointer (some ⟨g, 0, none⟩)] w fun e w' => e = .returned (.bool (bitB f k)) ∧ w' = w := by
  rcases hk with rfl | rfl | rfl | rfl | rfl <;> (go_enter Try.func44, Try.ntmps44; go_wp2; go_ret; exact ⟨rfl, rfl⟩)
set_option maxHeartbeats 4000000 in
theorem get_yes (s : ByteArray) (w : World) (hs : s.size ≤ 9223372036854775000) (h : 12 ≤ s.size) :
    Calls Try.prog 26 #[.string s] w fun e w' => e = .returned (.tuple #[(getH s).val, getC s, .int .i64 0]) ∧ Below w.heap.size w w' := by
  have q : decide ((s.size : Int) < 12) = false := by simp; omega
  go_enter Try.func26, Try.ntmps26
  go_wp2_with (go_at_call 16; refine (u16z s _ _ hs (by omega) (by omega)).mono ?_; rintro e w' ⟨rfl, rfl⟩)
  refine wp_loop_rounds 5 ?_
  repeat (rw [rounds_succ]; go_wp2_with (go_at_call 16; refine (u16z s _ _ hs (by omega) (by omega)).mono ?_; rintro e w' ⟨rfl, rfl⟩))
  refine world_abs (P := fun W => Code.wp _ _ _ _ W) ?_
  intro W hW
  have s0 : W.cell? ⟨w.heap.size + 1 + 1 + 1, 0, none⟩ = some (.int .i64 (be2 s 2)) := by rw [hW]; go_simp
  have s1 : W.cell? ⟨w.heap.size + 1 + 1, 0, none⟩ = some (.int .i64 (be2 s 4)) := by rw [hW]; go_simp
  have s2 : W.cell? ⟨w.heap.size + 1 + 1, 1, none⟩ = some (.int .i64 (be2 s 6)) := by rw [hW]; go_simp
  have s3 : W.cell? ⟨w.heap.size + 1 + 1, 2, none⟩ = some (.int .i64 (be2 s 8)) := by rw [hW]; go_simp
  have s4 : W.cell? ⟨w.heap.size + 1 + 1, 3, none⟩ = some (.int .i64 (be2 s 10)) := by rw [hW]; go_simp
  have t0 : W.cell? ⟨w.heap.size, 0, none⟩ = some (.int .i64 0) := by rw [hW]; go_simp
  have f0 : W.frozen? ⟨w.heap.size, 0, none⟩ = false := by rw [hW]; go_simp
  have t1 : W.cell? ⟨w.heap.size, 1, none⟩ = some (.bool false) := by rw [hW]; go_simp
  have f1 : W.frozen? ⟨w.heap.size, 1, none⟩ = false := by rw [hW]; go_simp
  have t2 : W.cell? ⟨w.heap.size, 2, none⟩ = some (.int .i64 0) := by rw [hW]; go_simp
  have f2 : W.frozen? ⟨w.heap.size, 2, none⟩ = false := by rw [hW]; go_simp
  have t3 : W.cell? ⟨w.heap.size, 3, none⟩ = some (.bool false) := by rw [hW]; go_simp
  have f3 : W.frozen? ⟨w.heap.size, 3, none⟩ = false := by rw [hW]; go_simp
  have t4 : W.cell? ⟨w.heap.size, 4, none⟩ = some (.bool false) := by rw [hW]; go_simp
  have f4 : W.frozen? ⟨w.heap.size, 4, none⟩ = false := by rw [hW]; go_simp
  have t5 : W.cell? ⟨w.heap.size, 5, none⟩ = some (.bool false) := by rw [hW]; go_simp
  have f5 : W.frozen? ⟨w.heap.size, 5, none⟩ = false := by rw [hW]; go_simp
  have t6 : W.cell? ⟨w.heap.size, 6, none⟩ = some (.bool false) := by rw [hW]; go_simp
  have f6 : W.frozen? ⟨w.heap.size, 6, none⟩ = false := by rw [hW]; go_simp
  have t7 : W.cell? ⟨w.heap.size, 7, none⟩ = some (.int .i64 0) := by rw [hW]; go_simp
  have f7 : W.frozen? ⟨w.heap.size, 7, none⟩ = false := by rw [hW]; go_simp
  have t8 : W.cell? ⟨w.heap.size, 8, none⟩ = some (.int .i64 0) := by rw [hW]; go_simp
  have f8 : W.frozen? ⟨w.heap.size, 8, none⟩ = false := by rw [hW]; go_simp
  have u0 : W.cell? ⟨w.heap.size + 1, 0, none⟩ = some (.int .i64 0) := by rw [hW]; go_simp
  have g0 : W.frozen? ⟨w.heap.size + 1, 0, none⟩ = false := by rw [hW]; go_simp
  have u1 : W.cell? ⟨w.heap.size + 1, 1, none⟩ = some (.int .i64 0) := by rw [hW]; go_simp
  have g1 : W.frozen? ⟨w.heap.size + 1, 1, none⟩ = false := by rw [hW]; go_simp
  have u2 : W.cell? ⟨w.heap.size + 1, 2, none⟩ = some (.int .i64 0) := by rw [hW]; go_simp
  have g2 : W.frozen? ⟨w.heap.size + 1, 2, none⟩ = false := by rw [hW]; go_simp
  have u3 : W.cell? ⟨w.heap.size + 1, 3, none⟩ = some (.int .i64 0) := by rw [hW]; go_simp
  have g3 : W.frozen? ⟨w.heap.size + 1, 3, none⟩ = false := by rw [hW]; go_simp
  have hbW : Below w.heap.size w W := by rw [hW]; exact below_alloc (below_alloc (below_alloc (below_alloc (Below.refl _ _) _) _) _) _
  have HW := Lib.hid hW
  clear hW
  go_region_held3 (fun w' => w'.cell? ⟨w.heap.size + 1 + 1 + 1, 0, none⟩ = some (.int .i64 (be2 s 2)) ∧ w'.cell? ⟨w.heap.size + 1 + 1, 0, none⟩ = some (.int .i64 (be2 s 4)) ∧ w'.cell? ⟨w.heap.size + 1 + 1, 1, none⟩ = some (.int .i64 (be2 s 6)) ∧ w'.cell? ⟨w.heap.size + 1 + 1, 2, none⟩ = some (.int .i64 (be2 s 8)) ∧ w'.cell? ⟨w.heap.size + 1 + 1, 3, none⟩ = some (.int .i64 (be2 s 10))) (first | (go_keep; done) | (refine ⟨?_, ?_, ?_, ?_, ?_⟩ <;> (go_simp; done)))
    (first | (go_at_call 44; refine (is_any (be2 s 2) _ _ _ ?_ ?_).mono ?_; (first | assumption | (go_simp; done)); decide; rintro e w' ⟨rfl, rfl⟩))
  refine world_abs (P := fun W2 => Exit.then _ _ _ _ W2) ?_
  intro W2 hW2
  have x0 : W2.cell? ⟨w.heap.size, 0, none⟩ = some (.int .i64 (be2 s 0)) := by rw [hW2]; go_simp
  have x1 : W2.cell? ⟨w.heap.size, 1, none⟩ = some (.bool (bitB (be2 s 2) 15)) := by rw [hW2]; go_simp
  have x2 : W2.cell? ⟨w.heap.size, 2, none⟩ = some (.int .i64 (Go.bits .and .i64 (be2 s 2 / 2048) 15)) := by rw [hW2]; go_simp
  have x3 : W2.cell? ⟨w.heap.size, 3, none⟩ = some (.bool (bitB (be2 s 2) 10)) := by rw [hW2]; go_simp
  have x4 : W2.cell? ⟨w.heap.size, 4, none⟩ = some (.bool (bitB (be2 s 2) 9)) := by rw [hW2]; go_simp
  have x5 : W2.cell? ⟨w.heap.size, 5, none⟩ = some (.bool (bitB (be2 s 2) 8)) := by rw [hW2]; go_simp
  have x6 : W2.cell? ⟨w.heap.size, 6, none⟩ = some (.bool (bitB (be2 s 2) 7)) := by rw [hW2]; go_simp
  have x7 : W2.cell? ⟨w.heap.size, 7, none⟩ = some (.int .i64 (Go.bits .and .i64 (be2 s 2 / 16) 7)) := by rw [hW2]; go_simp
  have x8 : W2.cell? ⟨w.heap.size, 8, none⟩ = some (.int .i64 (Go.bits .and .i64 (be2 s 2) 15)) := by rw [hW2]; go_simp
  have y0 : W2.cell? ⟨w.heap.size + 1, 0, none⟩ = some (.int .i64 (be2 s 4)) := by rw [hW2]; go_simp
  have y1 : W2.cell? ⟨w.heap.size + 1, 1, none⟩ = some (.int .i64 (be2 s 6)) := by rw [hW2]; go_simp
  have y2 : W2.cell? ⟨w.heap.size + 1, 2, none⟩ = some (.int .i64 (be2 s 8)) := by rw [hW2]; go_simp
  have y3 : W2.cell? ⟨w.heap.size + 1, 3, none⟩ = some (.int .i64 (be2 s 10)) := by rw [hW2]; go_simp
  have hb2 : Below w.heap.size w W2 := by
    rw [hW2]
    repeat (first | with_reducible exact hbW | with_reducible refine below_drew ?_ | with_reducible refine Below.setCell ?_ (by simp) _)
  clear hW2 s0 s1 s2 s3 s4 t0 t1 t2 t3 t4 t5 t6 t7 t8 f0 f1 f2 f3 f4 f5 f6 f7 f8 u0 u1 u2 u3 g0 g1 g2 g3
  go_wp2
  exact bodyPost_ret (v := .tuple #[(getH s).val, getC s, .int .i64 0]) (by simp [results, Try.results26, go_sem, getH, getC, Head.val, arr4, x0, x1, x2, x3, x4, x5, x6, x7, x8, y0, y1, y2, y3]) rfl ⟨rfl, hb2⟩
end Go.Proofs.Ytccnckppkkhoeaa.Hd
