/- Contracts of head.bit, head.may, head.Put: what each call answers, for every header and counts. -/
import Derived.Test.YtccnckppkkhoeaaOct
import Derived.Lib.QuietBelow
import Derived.BigQuiet
import Derived.Deep.RegionHeld3
namespace Go.Proofs.Ytccnckppkkhoeaa.Hd
open Go.RowKit Go.PlainAid Go.Proofs.Ytccnckppkkhoeaa.Base Go.Proofs.Ytccnckppkkhoeaa.Oct
set_option linter.unusedVariables false

structure Head where
  id : Int
  qr : Bool
  op : Int
  aa : Bool
  tc : Bool
  rd : Bool
  ra : Bool
  z : Int
  rc : Int
deriving DecidableEq

def Head.val (h : Head) : Value := .agg #[.int .i64 h.id, .bool h.qr, .int .i64 h.op, .bool h.aa, .bool h.tc, .bool h.rd, .bool h.ra, .int .i64 h.z, .int .i64 h.rc]
def arr4 (a b c d : Int) : Value := .agg #[.int .i64 a, .int .i64 b, .int .i64 c, .int .i64 d]
def sh (x : Int) : Prop := 0 ≤ x ∧ x ≤ 65535
instance (x : Int) : Decidable (sh x) := inferInstanceAs (Decidable (_ ∧ _))
def Head.ok (h : Head) : Prop := sh h.id ∧ (0 ≤ h.op ∧ h.op ≤ 15) ∧ (0 ≤ h.rc ∧ h.rc ≤ 15) ∧ (0 ≤ h.z ∧ h.z ≤ 7)
instance (h : Head) : Decidable h.ok := inferInstanceAs (Decidable (_ ∧ _))

/-- The header lies at an address, cell by cell. -/
structure At (w : World) (g o : Nat) (h : Head) : Prop where
  c0 : w.cell? ⟨g, o, none⟩ = some (.int .i64 h.id)
  c1 : w.cell? ⟨g, o + 1, none⟩ = some (.bool h.qr)
  c2 : w.cell? ⟨g, o + 2, none⟩ = some (.int .i64 h.op)
  c3 : w.cell? ⟨g, o + 3, none⟩ = some (.bool h.aa)
  c4 : w.cell? ⟨g, o + 4, none⟩ = some (.bool h.tc)
  c5 : w.cell? ⟨g, o + 5, none⟩ = some (.bool h.rd)
  c6 : w.cell? ⟨g, o + 6, none⟩ = some (.bool h.ra)
  c7 : w.cell? ⟨g, o + 7, none⟩ = some (.int .i64 h.z)
  c8 : w.cell? ⟨g, o + 8, none⟩ = some (.int .i64 h.rc)

theorem ix0 (a b c d : Int) : ∀ w, (Instr.index 37 (.agg #[.int .i64 a, .int .i64 b, .int .i64 c, .int .i64 d]) (.int .i64 0)).run Try.prog w = .ok (.int .i64 a) w := fun _ => by kernel_rfl
theorem ix1 (a b c d : Int) : ∀ w, (Instr.index 37 (.agg #[.int .i64 a, .int .i64 b, .int .i64 c, .int .i64 d]) (.int .i64 1)).run Try.prog w = .ok (.int .i64 b) w := fun _ => by kernel_rfl
theorem ix2 (a b c d : Int) : ∀ w, (Instr.index 37 (.agg #[.int .i64 a, .int .i64 b, .int .i64 c, .int .i64 d]) (.int .i64 2)).run Try.prog w = .ok (.int .i64 c) w := fun _ => by kernel_rfl
theorem ix3 (a b c d : Int) : ∀ w, (Instr.index 37 (.agg #[.int .i64 a, .int .i64 b, .int .i64 c, .int .i64 d]) (.int .i64 3)).run Try.prog w = .ok (.int .i64 d) w := fun _ => by kernel_rfl

set_option maxHeartbeats 400000 in
theorem bit15 (b : Bool) (w : World) : Calls Try.prog 42 #[.bool b, .int .i64 15] w fun e w' => e = .returned (.int .i64 (bif b then 32768 else 0)) ∧ w = w' := by
  cases b <;> (go_enter Try.func42, Try.ntmps42; go_wp2; go_ret; exact ⟨rfl, rfl⟩)
set_option maxHeartbeats 400000 in
theorem bit10 (b : Bool) (w : World) : Calls Try.prog 42 #[.bool b, .int .i64 10] w fun e w' => e = .returned (.int .i64 (bif b then 1024 else 0)) ∧ w = w' := by
  cases b <;> (go_enter Try.func42, Try.ntmps42; go_wp2; go_ret; exact ⟨rfl, rfl⟩)
set_option maxHeartbeats 400000 in
theorem bit9 (b : Bool) (w : World) : Calls Try.prog 42 #[.bool b, .int .i64 9] w fun e w' => e = .returned (.int .i64 (bif b then 512 else 0)) ∧ w = w' := by
  cases b <;> (go_enter Try.func42, Try.ntmps42; go_wp2; go_ret; exact ⟨rfl, rfl⟩)
set_option maxHeartbeats 400000 in
theorem bit8 (b : Bool) (w : World) : Calls Try.prog 42 #[.bool b, .int .i64 8] w fun e w' => e = .returned (.int .i64 (bif b then 256 else 0)) ∧ w = w' := by
  cases b <;> (go_enter Try.func42, Try.ntmps42; go_wp2; go_ret; exact ⟨rfl, rfl⟩)
set_option maxHeartbeats 400000 in
theorem bit7 (b : Bool) (w : World) : Calls Try.prog 42 #[.bool b, .int .i64 7] w fun e w' => e = .returned (.int .i64 (bif b then 128 else 0)) ∧ w = w' := by
  cases b <;> (go_enter Try.func42, Try.ntmps42; go_wp2; go_ret; exact ⟨rfl, rfl⟩)
set_option maxHeartbeats 1000000 in
theorem may_lo0 (h : Head) (a b c d : Int) (g o : Nat) (w : World) (hat : At w g o h)  (hx : a < 0) :
    Calls Try.prog 41 #[.pointer (some ⟨g, o, none⟩), arr4 a b c d] w fun e w' => e = .returned (.bool false) ∧ Below w.heap.size w w' := by
  obtain ⟨c0, c1, c2, c3, c4, c5, c6, c7, c8⟩ := hat
  have hlt : g < w.heap.size := World.block_lt_of_cell? w _ c0
  unfold arr4
  have i0 := ix0 a b c d
  have i1 := ix1 a b c d
  have i2 := ix2 a b c d
  have i3 := ix3 a b c d
  have q0 : decide (a < 0) = true := by simp; omega
  go_enter Try.func41, Try.ntmps41
  go_wp2
  refine wp_loop_rounds 1 ?_
  repeat (rw [rounds_succ]; go_wp2)
  go_ret
  exact ⟨rfl, below_alloc (Below.refl _ _) _⟩
set_option maxHeartbeats 1000000 in
theorem may_hi0 (h : Head) (a b c d : Int) (g o : Nat) (w : World) (hat : At w g o h)  (hx : 65535 < a) :
    Calls Try.prog 41 #[.pointer (some ⟨g, o, none⟩), arr4 a b c d] w fun e w' => e = .returned (.bool false) ∧ Below w.heap.size w w' := by
  obtain ⟨c0, c1, c2, c3, c4, c5, c6, c7, c8⟩ := hat
  have hlt : g < w.heap.size := World.block_lt_of_cell? w _ c0
  unfold arr4
  have i0 := ix0 a b c d
  have i1 := ix1 a b c d
  have i2 := ix2 a b c d
  have i3 := ix3 a b c d
  have q0 : decide (a < 0) = false := by simp; omega
  have q1 : decide ((65535 : Int) < a) = true := by simp; omega
  go_enter Try.func41, Try.ntmps41
  go_wp2
  refine wp_loop_rounds 1 ?_
  repeat (rw [rounds_succ]; go_wp2)
  go_ret
  exact ⟨rfl, below_alloc (Below.refl _ _) _⟩
set_option maxHeartbeats 1000000 in
theorem may_lo1 (h : Head) (a b c d : Int) (g o : Nat) (w : World) (hat : At w g o h) (h0 : sh a) (hx : b < 0) :
    Calls Try.prog 41 #[.pointer (some ⟨g, o, none⟩), arr4 a b c d] w fun e w' => e = .returned (.bool false) ∧ Below w.heap.size w w' := by
  obtain ⟨c0, c1, c2, c3, c4, c5, c6, c7, c8⟩ := hat
  have hlt : g < w.heap.size := World.block_lt_of_cell? w _ c0
  unfold arr4
  have i0 := ix0 a b c d
  have i1 := ix1 a b c d
  have i2 := ix2 a b c d
  have i3 := ix3 a b c d
  unfold sh at h0
  have q0 : decide (a < 0) = false := by simp; omega
  have q1 : decide ((65535 : Int) < a) = false := by simp; omega
  have q2 : decide (b < 0) = true := by simp; omega
  go_enter Try.func41, Try.ntmps41
  go_wp2
  refine wp_loop_rounds 2 ?_
  repeat (rw [rounds_succ]; go_wp2)
  go_ret
  exact ⟨rfl, below_alloc (Below.refl _ _) _⟩
set_option maxHeartbeats 1000000 in
theorem may_hi1 (h : Head) (a b c d : Int) (g o : Nat) (w : World) (hat : At w g o h) (h0 : sh a) (hx : 65535 < b) :
    Calls Try.prog 41 #[.pointer (some ⟨g, o, none⟩), arr4 a b c d] w fun e w' => e = .returned (.bool false) ∧ Below w.heap.size w w' := by
  obtain ⟨c0, c1, c2, c3, c4, c5, c6, c7, c8⟩ := hat
  have hlt : g < w.heap.size := World.block_lt_of_cell? w _ c0
  unfold arr4
  have i0 := ix0 a b c d
  have i1 := ix1 a b c d
  have i2 := ix2 a b c d
  have i3 := ix3 a b c d
  unfold sh at h0
  have q0 : decide (a < 0) = false := by simp; omega
  have q1 : decide ((65535 : Int) < a) = false := by simp; omega
  have q2 : decide (b < 0) = false := by simp; omega
  have q3 : decide ((65535 : Int) < b) = true := by simp; omega
  go_enter Try.func41, Try.ntmps41
  go_wp2
  refine wp_loop_rounds 2 ?_
  repeat (rw [rounds_succ]; go_wp2)
  go_ret
  exact ⟨rfl, below_alloc (Below.refl _ _) _⟩
set_option maxHeartbeats 1000000 in
theorem may_lo2 (h : Head) (a b c d : Int) (g o : Nat) (w : World) (hat : At w g o h) (h0 : sh a) (h1 : sh b) (hx : c < 0) :
    Calls Try.prog 41 #[.pointer (some ⟨g, o, none⟩), arr4 a b c d] w fun e w' => e = .returned (.bool false) ∧ Below w.heap.size w w' := by
  obtain ⟨c0, c1, c2, c3, c4, c5, c6, c7, c8⟩ := hat
  have hlt : g < w.heap.size := World.block_lt_of_cell? w _ c0
  unfold arr4
  have i0 := ix0 a b c d
  have i1 := ix1 a b c d
  have i2 := ix2 a b c d
  have i3 := ix3 a b c d
  unfold sh at h0
  unfold sh at h1
  have q0 : decide (a < 0) = false := by simp; omega
  have q1 : decide ((65535 : Int) < a) = false := by simp; omega
  have q2 : decide (b < 0) = false := by simp; omega
  have q3 : decide ((65535 : Int) < b) = false := by simp; omega
  have q4 : decide (c < 0) = true := by simp; omega
  go_enter Try.func41, Try.ntmps41
  go_wp2
  refine wp_loop_rounds 3 ?_
  repeat (rw [rounds_succ]; go_wp2)
  go_ret
  exact ⟨rfl, below_alloc (Below.refl _ _) _⟩
set_option maxHeartbeats 1000000 in
theorem may_hi2 (h : Head) (a b c d : Int) (g o : Nat) (w : World) (hat : At w g o h) (h0 : sh a) (h1 : sh b) (hx : 65535 < c) :
    Calls Try.prog 41 #[.pointer (some ⟨g, o, none⟩), arr4 a b c d] w fun e w' => e = .returned (.bool false) ∧ Below w.heap.size w w' := by
  obtain ⟨c0, c1, c2, c3, c4, c5, c6, c7, c8⟩ := hat
  have hlt : g < w.heap.size := World.block_lt_of_cell? w _ c0
  unfold arr4
  have i0 := ix0 a b c d
  have i1 := ix1 a b c d
  have i2 := ix2 a b c d
  have i3 := ix3 a b c d
  unfold sh at h0
  unfold sh at h1
  have q0 : decide (a < 0) = false := by simp; omega
  have q1 : decide ((65535 : Int) < a) = false := by simp; omega
  have q2 : decide (b < 0) = false := by simp; omega
  have q3 : decide ((65535 : Int) < b) = false := by simp; omega
  have q4 : decide (c < 0) = false := by simp; omega
  have q5 : decide ((65535 : Int) < c) = true := by simp; omega
  go_enter Try.func41, Try.ntmps41
  go_wp2
  refine wp_loop_rounds 3 ?_
  repeat (rw [rounds_succ]; go_wp2)
  go_ret
  exact ⟨rfl, below_alloc (Below.refl _ _) _⟩
set_option maxHeartbeats 1000000 in
theorem may_lo3 (h : Head) (a b c d : Int) (g o : Nat) (w : World) (hat : At w g o h) (h0 : sh a) (h1 : sh b) (h2 : sh c) (hx : d < 0) :
    Calls Try.prog 41 #[.pointer (some ⟨g, o, none⟩), arr4 a b c d] w fun e w' => e = .returned (.bool false) ∧ Below w.heap.size w w' := by
  obtain ⟨c0, c1, c2, c3, c4, c5, c6, c7, c8⟩ := hat
  have hlt : g < w.heap.size := World.block_lt_of_cell? w _ c0
  unfold arr4
  have i0 := ix0 a b c d
  have i1 := ix1 a b c d
  have i2 := ix2 a b c d
  have i3 := ix3 a b c d
  unfold sh at h0
  unfold sh at h1
  unfold sh at h2
  have q0 : decide (a < 0) = false := by simp; omega
  have q1 : decide ((65535 : Int) < a) = false := by simp; omega
  have q2 : decide (b < 0) = false := by simp; omega
  have q3 : decide ((65535 : Int) < b) = false := by simp; omega
  have q4 : decide (c < 0) = false := by simp; omega
  have q5 : decide ((65535 : Int) < c) = false := by simp; omega
  have q6 : decide (d < 0) = true := by simp; omega
  go_enter Try.func41, Try.ntmps41
  go_wp2
  refine wp_loop_rounds 4 ?_
  repeat (rw [rounds_succ]; go_wp2)
  go_ret
  exact ⟨rfl, below_alloc (Below.refl _ _) _⟩
set_option maxHeartbeats 1000000 in
theorem may_hi3 (h : Head) (a b c d : Int) (g o : Nat) (w : World) (hat : At w g o h) (h0 : sh a) (h1 : sh b) (h2 : sh c) (hx : 65535 < d) :
    Calls Try.prog 41 #[.pointer (some ⟨g, o, none⟩), arr4 a b c d] w fun e w' => e = .returned (.bool false) ∧ Below w.heap.size w w' := by
  obtain ⟨c0, c1, c2, c3, c4, c5, c6, c7, c8⟩ := hat
  have hlt : g < w.heap.size := World.block_lt_of_cell? w _ c0
  unfold arr4
  have i0 := ix0 a b c d
  have i1 := ix1 a b c d
  have i2 := ix2 a b c d
  have i3 := ix3 a b c d
  unfold sh at h0
  unfold sh at h1
  unfold sh at h2
  have q0 : decide (a < 0) = false := by simp; omega
  have q1 : decide ((65535 : Int) < a) = false := by simp; omega
  have q2 : decide (b < 0) = false := by simp; omega
  have q3 : decide ((65535 : Int) < b) = false := by simp; omega
  have q4 : decide (c < 0) = false := by simp; omega
  have q5 : decide ((65535 : Int) < c) = false := by simp; omega
  have q6 : decide (d < 0) = false := by simp; omega
  have q7 : decide ((65535 : Int) < d) = true := by simp; omega
  go_enter Try.func41, Try.ntmps41
  go_wp2
  refine wp_loop_rounds 4 ?_
  repeat (rw [rounds_succ]; go_wp2)
  go_ret
  exact ⟨rfl, below_alloc (Below.refl _ _) _⟩
set_option maxHeartbeats 1000000 in
theorem may_t0 (h : Head) (a b c d : Int) (g o : Nat) (w : World) (hat : At w g o h) (h0 : sh a) (h1 : sh b) (h2 : sh c) (h3 : sh d)  (hx : ¬ 0 ≤ h.id) :
    Calls Try.prog 41 #[.pointer (some ⟨g, o, none⟩), arr4 a b c d] w fun e w' => e = .returned (.bool false) ∧ Below w.heap.size w w' := by
  obtain ⟨c0, c1, c2, c3, c4, c5, c6, c7, c8⟩ := hat
  have hlt : g < w.heap.size := World.block_lt_of_cell? w _ c0
  unfold arr4
  have i0 := ix0 a b c d
  have i1 := ix1 a b c d
  have i2 := ix2 a b c d
  have i3 := ix3 a b c d
  unfold sh at h0 h1 h2 h3
  have q0 : decide (a < 0) = false := by simp; omega
  have q1 : decide ((65535 : Int) < a) = false := by simp; omega
  have q2 : decide (b < 0) = false := by simp; omega
  have q3 : decide ((65535 : Int) < b) = false := by simp; omega
  have q4 : decide (c < 0) = false := by simp; omega
  have q5 : decide ((65535 : Int) < c) = false := by simp; omega
  have q6 : decide (d < 0) = false := by simp; omega
  have q7 : decide ((65535 : Int) < d) = false := by simp; omega
  have q8 : decide (0 ≤ h.id) = false := by simp; omega
  go_enter Try.func41, Try.ntmps41
  go_wp2
  refine wp_loop_rounds 5 ?_
  repeat (rw [rounds_succ]; go_wp2)
  go_ret
  exact ⟨rfl, below_alloc (Below.refl _ _) _⟩
set_option maxHeartbeats 1000000 in
theorem may_t1 (h : Head) (a b c d : Int) (g o : Nat) (w : World) (hat : At w g o h) (h0 : sh a) (h1 : sh b) (h2 : sh c) (h3 : sh d) (x0 : 0 ≤ h.id) (hx : ¬ h.id ≤ 65535) :
    Calls Try.prog 41 #[.pointer (some ⟨g, o, none⟩), arr4 a b c d] w fun e w' => e = .returned (.bool false) ∧ Below w.heap.size w w' := by
  obtain ⟨c0, c1, c2, c3, c4, c5, c6, c7, c8⟩ := hat
  have hlt : g < w.heap.size := World.block_lt_of_cell? w _ c0
  unfold arr4
  have i0 := ix0 a b c d
  have i1 := ix1 a b c d
  have i2 := ix2 a b c d
  have i3 := ix3 a b c d
  unfold sh at h0 h1 h2 h3
  have q0 : decide (a < 0) = false := by simp; omega
  have q1 : decide ((65535 : Int) < a) = false := by simp; omega
  have q2 : decide (b < 0) = false := by simp; omega
  have q3 : decide ((65535 : Int) < b) = false := by simp; omega
  have q4 : decide (c < 0) = false := by simp; omega
  have q5 : decide ((65535 : Int) < c) = false := by simp; omega
  have q6 : decide (d < 0) = false := by simp; omega
  have q7 : decide ((65535 : Int) < d) = false := by simp; omega
  have q8 : decide (0 ≤ h.id) = true := by simp; omega
  have q9 : decide (h.id ≤ 65535) = false := by simp; omega
  go_enter Try.func41, Try.ntmps41
  go_wp2
  refine wp_loop_rounds 5 ?_
  repeat (rw [rounds_succ]; go_wp2)
  go_ret
  exact ⟨rfl, below_alloc (Below.refl _ _) _⟩
set_option maxHeartbeats 1000000 in
theorem may_t2 (h : Head) (a b c d : Int) (g o : Nat) (w : World) (hat : At w g o h) (h0 : sh a) (h1 : sh b) (h2 : sh c) (h3 : sh d) (x0 : 0 ≤ h.id) (x1 : h.id ≤ 65535) (hx : ¬ 0 ≤ h.op) :
    Calls Try.prog 41 #[.pointer (some ⟨g, o, none⟩), arr4 a b c d] w fun e w' => e = .returned (.bool false) ∧ Below w.heap.size w w' := by
  obtain ⟨c0, c1, c2, c3, c4, c5, c6, c7, c8⟩ := hat
  have hlt : g < w.heap.size := World.block_lt_of_cell? w _ c0
  unfold arr4
  have i0 := ix0 a b c d
  have i1 := ix1 a b c d
  have i2 := ix2 a b c d
  have i3 := ix3 a b c d
  unfold sh at h0 h1 h2 h3
  have q0 : decide (a < 0) = false := by simp; omega
  have q1 : decide ((65535 : Int) < a) = false := by simp; omega
  have q2 : decide (b < 0) = false := by simp; omega
  have q3 : decide ((65535 : Int) < b) = false := by simp; omega
  have q4 : decide (c < 0) = false := by simp; omega
  have q5 : decide ((65535 : Int) < c) = false := by simp; omega
  have q6 : decide (d < 0) = false := by simp; omega
  have q7 : decide ((65535 : Int) < d) = false := by simp; omega
  have q8 : decide (0 ≤ h.id) = true := by simp; omega
  have q9 : decide (h.id ≤ 65535) = true := by simp; omega
  have q10 : decide (0 ≤ h.op) = false := by simp; omega
  go_enter Try.func41, Try.ntmps41
  go_wp2
  refine wp_loop_rounds 5 ?_
  repeat (rw [rounds_succ]; go_wp2)
  go_ret
  exact ⟨rfl, below_alloc (Below.refl _ _) _⟩
set_option maxHeartbeats 1000000 in
theorem may_t3 (h : Head) (a b c d : Int) (g o : Nat) (w : World) (hat : At w g o h) (h0 : sh a) (h1 : sh b) (h2 : sh c) (h3 : sh d) (x0 : 0 ≤ h.id) (x1 : h.id ≤ 65535) (x2 : 0 ≤ h.op) (hx : ¬ h.op ≤ 15) :
    Calls Try.prog 41 #[.pointer (some ⟨g, o, none⟩), arr4 a b c d] w fun e w' => e = .returned (.bool false) ∧ Below w.heap.size w w' := by
  obtain ⟨c0, c1, c2, c3, c4, c5, c6, c7, c8⟩ := hat
  have hlt : g < w.heap.size := World.block_lt_of_cell? w _ c0
  unfold arr4
  have i0 := ix0 a b c d
  have i1 := ix1 a b c d
  have i2 := ix2 a b c d
  have i3 := ix3 a b c d
  unfold sh at h0 h1 h2 h3
  have q0 : decide (a < 0) = false := by simp; omega
  have q1 : decide ((65535 : Int) < a) = false := by simp; omega
  have q2 : decide (b < 0) = false := by simp; omega
  have q3 : decide ((65535 : Int) < b) = false := by simp; omega
  have q4 : decide (c < 0) = false := by simp; omega
  have q5 : decide ((65535 : Int) < c) = false := by simp; omega
  have q6 : decide (d < 0) = false := by simp; omega
  have q7 : decide ((65535 : Int) < d) = false := by simp; omega
  have q8 : decide (0 ≤ h.id) = true := by simp; omega
  have q9 : decide (h.id ≤ 65535) = true := by simp; omega
  have q10 : decide (0 ≤ h.op) = true := by simp; omega
  have q11 : decide (h.op ≤ 15) = false := by simp; omega
  go_enter Try.func41, Try.ntmps41
  go_wp2
  refine wp_loop_rounds 5 ?_
  repeat (rw [rounds_succ]; go_wp2)
  go_ret
  exact ⟨rfl, below_alloc (Below.refl _ _) _⟩
set_option maxHeartbeats 1000000 in
theorem may_t4 (h : Head) (a b c d : Int) (g o : Nat) (w : World) (hat : At w g o h) (h0 : sh a) (h1 : sh b) (h2 : sh c) (h3 : sh d) (x0 : 0 ≤ h.id) (x1 : h.id ≤ 65535) (x2 : 0 ≤ h.op) (x3 : h.op ≤ 15) (hx : ¬ 0 ≤ h.rc) :
    Calls Try.prog 41 #[.pointer (some ⟨g, o, none⟩), arr4 a b c d] w fun e w' => e = .returned (.bool false) ∧ Below w.heap.size w w' := by
  obtain ⟨c0, c1, c2, c3, c4, c5, c6, c7, c8⟩ := hat
  have hlt : g < w.heap.size := World.block_lt_of_cell? w _ c0
  unfold arr4
  have i0 := ix0 a b c d
  have i1 := ix1 a b c d
  have i2 := ix2 a b c d
  have i3 := ix3 a b c d
  unfold sh at h0 h1 h2 h3
  have q0 : decide (a < 0) = false := by simp; omega
  have q1 : decide ((65535 : Int) < a) = false := by simp; omega
  have q2 : decide (b < 0) = false := by simp; omega
  have q3 : decide ((65535 : Int) < b) = false := by simp; omega
  have q4 : decide (c < 0) = false := by simp; omega
  have q5 : decide ((65535 : Int) < c) = false := by simp; omega
  have q6 : decide (d < 0) = false := by simp; omega
  have q7 : decide ((65535 : Int) < d) = false := by simp; omega
  have q8 : decide (0 ≤ h.id) = true := by simp; omega
  have q9 : decide (h.id ≤ 65535) = true := by simp; omega
  have q10 : decide (0 ≤ h.op) = true := by simp; omega
  have q11 : decide (h.op ≤ 15) = true := by simp; omega
  have q12 : decide (0 ≤ h.rc) = false := by simp; omega
  go_enter Try.func41, Try.ntmps41
  go_wp2
  refine wp_loop_rounds 5 ?_
  repeat (rw [rounds_succ]; go_wp2)
  go_ret
  exact ⟨rfl, below_alloc (Below.refl _ _) _⟩
set_option maxHeartbeats 1000000 in
theorem may_t5 (h : Head) (a b c d : Int) (g o : Nat) (w : World) (hat : At w g o h) (h0 : sh a) (h1 : sh b) (h2 : sh c) (h3 : sh d) (x0 : 0 ≤ h.id) (x1 : h.id ≤ 65535) (x2 : 0 ≤ h.op) (x3 : h.op ≤ 15) (x4 : 0 ≤ h.rc) (hx : ¬ h.rc ≤ 15) :
    Calls Try.prog 41 #[.pointer (some ⟨g, o, none⟩), arr4 a b c d] w fun e w' => e = .returned (.bool false) ∧ Below w.heap.size w w' := by
  obtain ⟨c0, c1, c2, c3, c4, c5, c6, c7, c8⟩ := hat
  have hlt : g < w.heap.size := World.block_lt_of_cell? w _ c0
  unfold arr4
  have i0 := ix0 a b c d
  have i1 := ix1 a b c d
  have i2 := ix2 a b c d
  have i3 := ix3 a b c d
  unfold sh at h0 h1 h2 h3
  have q0 : decide (a < 0) = false := by simp; omega
  have q1 : decide ((65535 : Int) < a) = false := by simp; omega
  have q2 : decide (b < 0) = false := by simp; omega
  have q3 : decide ((65535 : Int) < b) = false := by simp; omega
  have q4 : decide (c < 0) = false := by simp; omega
  have q5 : decide ((65535 : Int) < c) = false := by simp; omega
  have q6 : decide (d < 0) = false := by simp; omega
  have q7 : decide ((65535 : Int) < d) = false := by simp; omega
  have q8 : decide (0 ≤ h.id) = true := by simp; omega
  have q9 : decide (h.id ≤ 65535) = true := by simp; omega
  have q10 : decide (0 ≤ h.op) = true := by simp; omega
  have q11 : decide (h.op ≤ 15) = true := by simp; omega
  have q12 : decide (0 ≤ h.rc) = true := by simp; omega
  have q13 : decide (h.rc ≤ 15) = false := by simp; omega
  go_enter Try.func41, Try.ntmps41
  go_wp2
  refine wp_loop_rounds 5 ?_
  repeat (rw [rounds_succ]; go_wp2)
  go_ret
  exact ⟨rfl, below_alloc (Below.refl _ _) _⟩
set_option maxHeartbeats 1000000 in
theorem may_t6 (h : Head) (a b c d : Int) (g o : Nat) (w : World) (hat : At w g o h) (h0 : sh a) (h1 : sh b) (h2 : sh c) (h3 : sh d) (x0 : 0 ≤ h.id) (x1 : h.id ≤ 65535) (x2 : 0 ≤ h.op) (x3 : h.op ≤ 15) (x4 : 0 ≤ h.rc) (x5 : h.rc ≤ 15) (hx : ¬ 0 ≤ h.z) :
    Calls Try.prog 41 #[.pointer (some ⟨g, o, none⟩), arr4 a b c d] w fun e w' => e = .returned (.bool false) ∧ Below w.heap.size w w' := by
  obtain ⟨c0, c1, c2, c3, c4, c5, c6, c7, c8⟩ := hat
  have hlt : g < w.heap.size := World.block_lt_of_cell? w _ c0
  unfold arr4
  have i0 := ix0 a b c d
  have i1 := ix1 a b c d
  have i2 := ix2 a b c d
  have i3 := ix3 a b c d
  unfold sh at h0 h1 h2 h3
  have q0 : decide (a < 0) = false := by simp; omega
  have q1 : decide ((65535 : Int) < a) = false := by simp; omega
  have q2 : decide (b < 0) = false := by simp; omega
  have q3 : decide ((65535 : Int) < b) = false := by simp; omega
  have q4 : decide (c < 0) = false := by simp; omega
  have q5 : decide ((65535 : Int) < c) = false := by simp; omega
  have q6 : decide (d < 0) = false := by simp; omega
  have q7 : decide ((65535 : Int) < d) = false := by simp; omega
  have q8 : decide (0 ≤ h.id) = true := by simp; omega
  have q9 : decide (h.id ≤ 65535) = true := by simp; omega
  have q10 : decide (0 ≤ h.op) = true := by simp; omega
  have q11 : decide (h.op ≤ 15) = true := by simp; omega
  have q12 : decide (0 ≤ h.rc) = true := by simp; omega
  have q13 : decide (h.rc ≤ 15) = true := by simp; omega
  have q14 : decide (0 ≤ h.z) = false := by simp; omega
  go_enter Try.func41, Try.ntmps41
  go_wp2
  refine wp_loop_rounds 5 ?_
  repeat (rw [rounds_succ]; go_wp2)
  go_ret
  exact ⟨rfl, below_alloc (Below.refl _ _) _⟩
set_option maxHeartbeats 1000000 in
theorem may_t7 (h : Head) (a b c d : Int) (g o : Nat) (w : World) (hat : At w g o h) (h0 : sh a) (h1 : sh b) (h2 : sh c) (h3 : sh d) (x0 : 0 ≤ h.id) (x1 : h.id ≤ 65535) (x2 : 0 ≤ h.op) (x3 : h.op ≤ 15) (x4 : 0 ≤ h.rc) (x5 : h.rc ≤ 15) (x6 : 0 ≤ h.z) (hx : ¬ h.z ≤ 7) :
    Calls Try.prog 41 #[.pointer (some ⟨g, o, none⟩), arr4 a b c d] w fun e w' => e = .returned (.bool false) ∧ Below w.heap.size w w' := by
  obtain ⟨c0, c1, c2, c3, c4, c5, c6, c7, c8⟩ := hat
  have hlt : g < w.heap.size := World.block_lt_of_cell? w _ c0
  unfold arr4
  have i0 := ix0 a b c d
  have i1 := ix1 a b c d
  have i2 := ix2 a b c d
  have i3 := ix3 a b c d
  unfold sh at h0 h1 h2 h3
  have q0 : decide (a < 0) = false := by simp; omega
  have q1 : decide ((65535 : Int) < a) = false := by simp; omega
  have q2 : decide (b < 0) = false := by simp; omega
  have q3 : decide ((65535 : Int) < b) = false := by simp; omega
  have q4 : decide (c < 0) = false := by simp; omega
  have q5 : decide ((65535 : Int) < c) = false := by simp; omega
  have q6 : decide (d < 0) = false := by simp; omega
  have q7 : decide ((65535 : Int) < d) = false := by simp; omega
  have q8 : decide (0 ≤ h.id) = true := by simp; omega
  have q9 : decide (h.id ≤ 65535) = true := by simp; omega
  have q10 : decide (0 ≤ h.op) = true := by simp; omega
  have q11 : decide (h.op ≤ 15) = true := by simp; omega
  have q12 : decide (0 ≤ h.rc) = true := by simp; omega
  have q13 : decide (h.rc ≤ 15) = true := by simp; omega
  have q14 : decide (0 ≤ h.z) = true := by simp; omega
  have q15 : decide (h.z ≤ 7) = false := by simp; omega
  go_enter Try.func41, Try.ntmps41
  go_wp2
  refine wp_loop_rounds 5 ?_
  repeat (rw [rounds_succ]; go_wp2)
  go_ret
  exact ⟨rfl, below_alloc (Below.refl _ _) _⟩
set_option maxHeartbeats 1000000 in
theorem may_t8 (h : Head) (a b c d : Int) (g o : Nat) (w : World) (hat : At w g o h) (h0 : sh a) (h1 : sh b) (h2 : sh c) (h3 : sh d) (x0 : 0 ≤ h.id) (x1 : h.id ≤ 65535) (x2 : 0 ≤ h.op) (x3 : h.op ≤ 15) (x4 : 0 ≤ h.rc) (x5 : h.rc ≤ 15) (x6 : 0 ≤ h.z) (x7 : h.z ≤ 7) :
    Calls Try.prog 41 #[.pointer (some ⟨g, o, none⟩), arr4 a b c d] w fun e w' => e = .returned (.bool true) ∧ Below w.heap.size w w' := by
  obtain ⟨c0, c1, c2, c3, c4, c5, c6, c7, c8⟩ := hat
  have hlt : g < w.heap.size := World.block_lt_of_cell? w _ c0
  unfold arr4
  have i0 := ix0 a b c d
  have i1 := ix1 a b c d
  have i2 := ix2 a b c d
  have i3 := ix3 a b c d
  unfold sh at h0 h1 h2 h3
  have q0 : decide (a < 0) = false := by simp; omega
  have q1 : decide ((65535 : Int) < a) = false := by simp; omega
  have q2 : decide (b < 0) = false := by simp; omega
  have q3 : decide ((65535 : Int) < b) = false := by simp; omega
  have q4 : decide (c < 0) = false := by simp; omega
  have q5 : decide ((65535 : Int) < c) = false := by simp; omega
  have q6 : decide (d < 0) = false := by simp; omega
  have q7 : decide ((65535 : Int) < d) = false := by simp; omega
  have q8 : decide (0 ≤ h.id) = true := by simp; omega
  have q9 : decide (h.id ≤ 65535) = true := by simp; omega
  have q10 : decide (0 ≤ h.op) = true := by simp; omega
  have q11 : decide (h.op ≤ 15) = true := by simp; omega
  have q12 : decide (0 ≤ h.rc) = true := by simp; omega
  have q13 : decide (h.rc ≤ 15) = true := by simp; omega
  have q14 : decide (0 ≤ h.z) = true := by simp; omega
  have q15 : decide (h.z ≤ 7) = true := by simp; omega
  go_enter Try.func41, Try.ntmps41
  go_wp2
  refine wp_loop_rounds 5 ?_
  repeat (rw [rounds_succ]; go_wp2)
  go_ret
  exact ⟨rfl, below_alloc (Below.refl _ _) _⟩

/-- May a header be, with its counts? -/
def mayB (h : Head) (a b c d : Int) : Bool := decide ((sh a ∧ sh b ∧ sh c ∧ sh d) ∧ h.ok)
theorem may_yes (h : Head) (a b c d : Int) (g o : Nat) (w : World) (hat : At w g o h) (hm : mayB h a b c d = true) :
    Calls Try.prog 41 #[.pointer (some ⟨g, o, none⟩), arr4 a b c d] w fun e w' => e = .returned (.bool true) ∧ Below w.heap.size w w' := by
  obtain ⟨⟨h0, h1, h2, h3⟩, ⟨k0, k1⟩, ⟨k2, k3⟩, ⟨k4, k5⟩, k6, k7⟩ := of_decide_eq_true hm
  exact may_t8 h a b c d g o w hat h0 h1 h2 h3 k0 k1 k2 k3 k4 k5 k6 k7
theorem may_no (h : Head) (a b c d : Int) (g o : Nat) (w : World) (hat : At w g o h) (hm : mayB h a b c d = false) :
    Calls Try.prog 41 #[.pointer (some ⟨g, o, none⟩), arr4 a b c d] w fun e w' => e = .returned (.bool false) ∧ Below w.heap.size w w' := by
  have hm' := of_decide_eq_false hm
  unfold Head.ok at hm'
  by_cases l0 : a < 0
  · exact may_lo0 h a b c d g o w hat  l0
  by_cases u0 : 65535 < a
  · exact may_hi0 h a b c d g o w hat  u0
  have h0 : sh a := ⟨by omega, by omega⟩
  by_cases l1 : b < 0
  · exact may_lo1 h a b c d g o w hat h0 l1
  by_cases u1 : 65535 < b
  · exact may_hi1 h a b c d g o w hat h0 u1
  have h1 : sh b := ⟨by omega, by omega⟩
  by_cases l2 : c < 0
  · exact may_lo2 h a b c d g o w hat h0 h1 l2
  by_cases u2 : 65535 < c
  · exact may_hi2 h a b c d g o w hat h0 h1 u2
  have h2 : sh c := ⟨by omega, by omega⟩
  by_cases l3 : d < 0
  · exact may_lo3 h a b c d g o w hat h0 h1 h2 l3
  by_cases u3 : 65535 < d
  · exact may_hi3 h a b c d g o w hat h0 h1 h2 u3
  have h3 : sh d := ⟨by omega, by omega⟩
  by_cases x0 : 0 ≤ h.id
  rotate_left
  · exact may_t0 h a b c d g o w hat h0 h1 h2 h3  x0
  by_cases x1 : h.id ≤ 65535
  rotate_left
  · exact may_t1 h a b c d g o w hat h0 h1 h2 h3 x0 x1
  by_cases x2 : 0 ≤ h.op
  rotate_left
  · exact may_t2 h a b c d g o w hat h0 h1 h2 h3 x0 x1 x2
  by_cases x3 : h.op ≤ 15
  rotate_left
  · exact may_t3 h a b c d g o w hat h0 h1 h2 h3 x0 x1 x2 x3
  by_cases x4 : 0 ≤ h.rc
  rotate_left
  · exact may_t4 h a b c d g o w hat h0 h1 h2 h3 x0 x1 x2 x3 x4
  by_cases x5 : h.rc ≤ 15
  rotate_left
  · exact may_t5 h a b c d g o w hat h0 h1 h2 h3 x0 x1 x2 x3 x4 x5
  by_cases x6 : 0 ≤ h.z
  rotate_left
  · exact may_t6 h a b c d g o w hat h0 h1 h2 h3 x0 x1 x2 x3 x4 x5 x6
  by_cases x7 : h.z ≤ 7
  rotate_left
  · exact may_t7 h a b c d g o w hat h0 h1 h2 h3 x0 x1 x2 x3 x4 x5 x6 x7
  exact absurd ⟨⟨h0, h1, h2, h3⟩, ⟨x0, x1⟩, ⟨x2, x3⟩, ⟨x4, x5⟩, x6, x7⟩ hm'
def bitW (b : Bool) (k : Int) : Int := bif b then 2 ^ k.toNat else 0
theorem bit_any (b : Bool) (k : Int) (w : World) (hk : k = 15 ∨ k = 10 ∨ k = 9 ∨ k = 8 ∨ k = 7) : Calls Try.prog 42 #[.bool b, .int .i64 k] w fun e w' => e = .returned (.int .i64 (bitW b k)) ∧ Below w.heap.size w w' := by
  rcases hk with rfl | rfl | rfl | rfl | rfl
  · exact (bit15 b w).mono fun _ _ h => ⟨h.1, h.2 ▸ Below.refl _ _⟩
  · exact (bit10 b w).mono fun _ _ h => ⟨h.1, h.2 ▸ Below.refl _ _⟩
  · exact (bit9 b w).mono fun _ _ h => ⟨h.1, h.2 ▸ Below.refl _ _⟩
  · exact (bit8 b w).mono fun _ _ h => ⟨h.1, h.2 ▸ Below.refl _ _⟩
  · exact (bit7 b w).mono fun _ _ h => ⟨h.1, h.2 ▸ Below.refl _ _⟩
end Go.Proofs.Ytccnckppkkhoeaa.Hd
