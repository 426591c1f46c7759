/- Contracts of head.Put: what each call answers, for every header and counts. -/
import Derived.Test.YtccnckppkkhoeaaHeadMay
import Derived.Lib.QuietBelow
import Derived.BigQuiet
import Derived.Deep.RegionHeld3
namespace Go.Proofs.Ytccnckppkkhoeaa.Hd
open Go.RowKit Go.PlainAid Go.Proofs.Ytccnckppkkhoeaa.Base Go.Proofs.Ytccnckppkkhoeaa.Oct
set_option linter.unusedVariables false

/-! ### Put -/
def Head.flagsW (h : Head) : Int :=
  (Go.bits .or .i64 (Go.bits .or .i64 (Go.bits .or .i64 (Go.bits .or .i64 (Go.bits .or .i64 (Go.bits .or .i64 (Go.bits .or .i64 (bitW h.qr 15) (wrap64 (h.op * 2048))) (bitW h.aa 10)) (bitW h.tc 9)) (bitW h.rd 8)) (bitW h.ra 7)) (wrap64 (h.z * 16))) h.rc)
def Head.flagsN (h : Head) : Int :=
  (Go.bits .or .i64 (Go.bits .or .i64 (Go.bits .or .i64 (Go.bits .or .i64 (Go.bits .or .i64 (Go.bits .or .i64 (Go.bits .or .i64 (bitW h.qr 15) ((h.op * 2048))) (bitW h.aa 10)) (bitW h.tc 9)) (bitW h.rd 8)) (bitW h.ra 7)) ((h.z * 16))) h.rc)
theorem flags_eq (h : Head) (h0 : 0 ≤ h.op) (h1 : h.op ≤ 15) (h2 : 0 ≤ h.z) (h3 : h.z ≤ 7) : h.flagsW = h.flagsN := by
  unfold Head.flagsW Head.flagsN
  rw [w64 (by omega) (by omega), w64 (by omega) (by omega)]
def Head.putS (h : Head) (a b c d : Int) : ByteArray := p16 h.id ++ p16 h.flagsW ++ p16 a ++ p16 b ++ p16 c ++ p16 d
theorem same_below {P : Program} {f : FuncId} {args : Array Value} {w : World} {v : Value} (h : Calls P f args w fun e w' => e = .returned v ∧ w = w') : Calls P f args w fun e w' => e = .returned v ∧ Below w.heap.size w w' :=
  h.mono fun _ _ h => ⟨h.1, h.2 ▸ Below.refl _ _⟩
set_option maxHeartbeats 2000000 in
theorem put_yes (h : Head) (a b c d : Int) (w : World) (hm : mayB h a b c d = true) :
    Calls Try.prog 24 #[h.val, arr4 a b c d] w fun e w' => e = .returned (.tuple #[.string (h.putS a b c d), .int .i64 0]) ∧ Below w.heap.size w w' := by
  unfold Head.val arr4
  have z := p16_size
  go_enter Try.func24, Try.ntmps24
  go_wp2_with fail
  refine (may_yes h a b c d w.heap.size 0 _ ⟨by go_simp, by go_simp, by go_simp, by go_simp, by go_simp, by go_simp, by go_simp, by go_simp, by go_simp⟩ hm).mono ?_
  rintro e w1 ⟨rfl, hb1⟩
  have bz := hb1.size
  simp only [World.size_alloc] at bz
  have k0 : w1.cell? ⟨w.heap.size, 0, none⟩ = some (.int .i64 h.id) := bcell hb1 (by go_simp)
  have k1 : w1.cell? ⟨w.heap.size, 1, none⟩ = some (.bool h.qr) := bcell hb1 (by go_simp)
  have k2 : w1.cell? ⟨w.heap.size, 2, none⟩ = some (.int .i64 h.op) := bcell hb1 (by go_simp)
  have k3 : w1.cell? ⟨w.heap.size, 3, none⟩ = some (.bool h.aa) := bcell hb1 (by go_simp)
  have k4 : w1.cell? ⟨w.heap.size, 4, none⟩ = some (.bool h.tc) := bcell hb1 (by go_simp)
  have k5 : w1.cell? ⟨w.heap.size, 5, none⟩ = some (.bool h.rd) := bcell hb1 (by go_simp)
  have k6 : w1.cell? ⟨w.heap.size, 6, none⟩ = some (.bool h.ra) := bcell hb1 (by go_simp)
  have k7 : w1.cell? ⟨w.heap.size, 7, none⟩ = some (.int .i64 h.z) := bcell hb1 (by go_simp)
  have k8 : w1.cell? ⟨w.heap.size, 8, none⟩ = some (.int .i64 h.rc) := bcell hb1 (by go_simp)
  have m0 : w1.cell? ⟨w.heap.size + 1, 0, none⟩ = some (.int .i64 a) := bcell hb1 (by go_simp)
  have m1 : w1.cell? ⟨w.heap.size + 1, 1, none⟩ = some (.int .i64 b) := bcell hb1 (by go_simp)
  have m2 : w1.cell? ⟨w.heap.size + 1, 2, none⟩ = some (.int .i64 c) := bcell hb1 (by go_simp)
  have m3 : w1.cell? ⟨w.heap.size + 1, 3, none⟩ = some (.int .i64 d) := bcell hb1 (by go_simp)
  go_wp2
  have r0 := cell_regrown k0
  have r1 := cell_regrown k1
  have r2 := cell_regrown k2
  have r3 := cell_regrown k3
  have r4 := cell_regrown k4
  have r5 := cell_regrown k5
  have r6 := cell_regrown k6
  have r7 := cell_regrown k7
  have r8 := cell_regrown k8
  refine wp_region_quiet_below (by kernel_rfl) (by kernel_rfl) ?_
  repeat (go_big_quiet_step (exact Calls.regrown_of (bit_any _ _ _ (by decide))))
  refine wpQuiet_nil ?_
  intro _ hw'
  obtain ⟨⟨dq, osq⟩, hw''⟩ := hw'
  subst hw''
  have hb2 := below_regrown w1 dq osq
  generalize Go.Sort.grow (redrawn w1 dq) osq = w2 at hb2 ⊢
  have n0 := bcell hb2 k0
  have o0 := bcell hb2 m0
  have o1 := bcell hb2 m1
  have o2 := bcell hb2 m2
  have o3 := bcell hb2 m3
  clear r0 r1 r2 r3 r4 r5 r6 r7 r8 k0 k1 k2 k3 k4 k5 k6 k7 k8 m0 m1 m2 m3
  have i0 := ix0 a b c d
  have i1 := ix1 a b c d
  have i2 := ix2 a b c d
  have i3 := ix3 a b c d
  go_wp2_with fail
  refine (put16 _ _).mono ?_
  rintro e w3 ⟨rfl, hb3⟩
  have p0 := bcell hb3 o0
  have p1 := bcell hb3 o1
  have p2 := bcell hb3 o2
  have p3 := bcell hb3 o3
  clear n0 o0 o1 o2 o3
  go_wp2_with fail
  refine (put16 _ _).mono ?_
  rintro e w4 ⟨rfl, hb4⟩
  have o0 := bcell hb4 p0
  have o1 := bcell hb4 p1
  have o2 := bcell hb4 p2
  have o3 := bcell hb4 p3
  clear p0 p1 p2 p3
  go_wp2_with fail
  clear o0 o1 o2 o3
  refine wp_loop_rounds 5 ?_
  rw [rounds_succ]
  go_wp2_with fail
  refine (put16 _ _).mono ?_
  rintro e w5 ⟨rfl, hb5⟩
  go_wp2_with fail
  rw [rounds_succ]
  go_wp2_with fail
  refine (put16 _ _).mono ?_
  rintro e w6 ⟨rfl, hb6⟩
  go_wp2_with fail
  rw [rounds_succ]
  go_wp2_with fail
  refine (put16 _ _).mono ?_
  rintro e w7 ⟨rfl, hb7⟩
  go_wp2_with fail
  rw [rounds_succ]
  go_wp2_with fail
  refine (put16 _ _).mono ?_
  rintro e w8 ⟨rfl, hb8⟩
  go_wp2_with fail
  rw [rounds_succ]
  go_wp2
  go_ret2
  exact ⟨rfl, (below_next (below_next (below_next (below_next (below_next (below_next (below_next (below_next (below_alloc (below_alloc (Below.refl _ _) _) _) hb1) hb2) hb3) hb4) hb5) hb6) hb7) hb8)⟩
end Go.Proofs.Ytccnckppkkhoeaa.Hd
