/- wimplelaw6.Heads answers true, for every header, counts and string. -/
import Derived.Test.YtccnckppkkhoeaaHeadAwake
import Derived.Lib.Hide
namespace Go.Proofs.Ytccnckppkkhoeaa.Hd
open Go.RowKit Go.PlainAid Go.Proofs.Ytccnckppkkhoeaa.Base Go.Proofs.Ytccnckppkkhoeaa.Oct
set_option linter.unusedVariables false

set_option maxHeartbeats 4000000 in
theorem heads_walk (h : Head) (a b c d : Int) (s : ByteArray) (w : World) (_ : (Lit.int .i64 a).wf = true) (_ : (Lit.int .i64 b).wf = true) (_ : (Lit.int .i64 c).wf = true) (_ : (Lit.int .i64 d).wf = true) (hs : s.size ≤ 140737488351232) :
    Calls Try.prog 7 #[.agg #[.int .i64 h.id, .bool h.qr, .int .i64 h.op, .bool h.aa, .bool h.tc, .bool h.rd, .bool h.ra, .int .i64 h.z, .int .i64 h.rc], .int .i64 a, .int .i64 b, .int .i64 c, .int .i64 d, .string s] w fun e w' => e = .returned (.bool true) ∧ Below w.heap.size w w' := by
  have q1 := eqHead (gotH s) (gotH s)
  rw [eqB_self] at q1
  have q2 := eqArr (gotC s 4) (gotC s 6) (gotC s 8) (gotC s 10)
  go_enter Try.func7, Try.ntmps7
  go_wp2_with fail
  refine (wrote h a b c d _).mono ?_
  rintro e w1 ⟨rfl, hb1⟩
  have x0 : w1.cell? ⟨w.heap.size, 0, none⟩ = some (.int .i64 h.id) := bcell hb1 (by go_simp)
  have x1 : w1.cell? ⟨w.heap.size, 1, none⟩ = some (.bool h.qr) := bcell hb1 (by go_simp)
  have x2 : w1.cell? ⟨w.heap.size, 2, none⟩ = some (.int .i64 h.op) := bcell hb1 (by go_simp)
  have x3 : w1.cell? ⟨w.heap.size, 3, none⟩ = some (.bool h.aa) := bcell hb1 (by go_simp)
  have x4 : w1.cell? ⟨w.heap.size, 4, none⟩ = some (.bool h.tc) := bcell hb1 (by go_simp)
  have x5 : w1.cell? ⟨w.heap.size, 5, none⟩ = some (.bool h.rd) := bcell hb1 (by go_simp)
  have x6 : w1.cell? ⟨w.heap.size, 6, none⟩ = some (.bool h.ra) := bcell hb1 (by go_simp)
  have x7 : w1.cell? ⟨w.heap.size, 7, none⟩ = some (.int .i64 h.z) := bcell hb1 (by go_simp)
  have x8 : w1.cell? ⟨w.heap.size, 8, none⟩ = some (.int .i64 h.rc) := bcell hb1 (by go_simp)
  have y0 : w1.cell? ⟨w.heap.size + 1, 0, none⟩ = some (.int .i64 a) := bcell hb1 (by go_simp)
  have y1 : w1.cell? ⟨w.heap.size + 1, 1, none⟩ = some (.int .i64 b) := bcell hb1 (by go_simp)
  have y2 : w1.cell? ⟨w.heap.size + 1, 2, none⟩ = some (.int .i64 c) := bcell hb1 (by go_simp)
  have y3 : w1.cell? ⟨w.heap.size + 1, 3, none⟩ = some (.int .i64 d) := bcell hb1 (by go_simp)
  have z1 : w.heap.size + 1 < w1.heap.size := by have := hb1.size; simp at this; omega
  go_wp2_with fail
  refine (rwrote h a b c d _).mono ?_
  rintro e w2 ⟨rfl, hb2⟩
  clear x0 x1 x2 x3 x4 x5 x6 x7 x8
  clear y0 y1 y2 y3
  go_wp2_with fail
  refine (got s _ (by omega)).mono ?_
  rintro e w3 ⟨rfl, hb3⟩
  go_wp2_with fail
  refine (rgot s _ (by omega)).mono ?_
  rintro e w4 ⟨rfl, hb4⟩
  have u0 : w4.cell? ⟨w3.heap.size, 0, none⟩ = some (.int .i64 (gotH s).id) := bcell hb4 (by go_simp)
  have u1 : w4.cell? ⟨w3.heap.size, 1, none⟩ = some (.bool (gotH s).qr) := bcell hb4 (by go_simp)
  have u2 : w4.cell? ⟨w3.heap.size, 2, none⟩ = some (.int .i64 (gotH s).op) := bcell hb4 (by go_simp)
  have u3 : w4.cell? ⟨w3.heap.size, 3, none⟩ = some (.bool (gotH s).aa) := bcell hb4 (by go_simp)
  have u4 : w4.cell? ⟨w3.heap.size, 4, none⟩ = some (.bool (gotH s).tc) := bcell hb4 (by go_simp)
  have u5 : w4.cell? ⟨w3.heap.size, 5, none⟩ = some (.bool (gotH s).rd) := bcell hb4 (by go_simp)
  have u6 : w4.cell? ⟨w3.heap.size, 6, none⟩ = some (.bool (gotH s).ra) := bcell hb4 (by go_simp)
  have u7 : w4.cell? ⟨w3.heap.size, 7, none⟩ = some (.int .i64 (gotH s).z) := bcell hb4 (by go_simp)
  have u8 : w4.cell? ⟨w3.heap.size, 8, none⟩ = some (.int .i64 (gotH s).rc) := bcell hb4 (by go_simp)
  have v0 : w4.cell? ⟨w3.heap.size + 1, 0, none⟩ = some (.int .i64 (gotC s 4)) := bcell hb4 (by go_simp)
  have v1 : w4.cell? ⟨w3.heap.size + 1, 1, none⟩ = some (.int .i64 (gotC s 6)) := bcell hb4 (by go_simp)
  have v2 : w4.cell? ⟨w3.heap.size + 1, 2, none⟩ = some (.int .i64 (gotC s 8)) := bcell hb4 (by go_simp)
  have v3 : w4.cell? ⟨w3.heap.size + 1, 3, none⟩ = some (.int .i64 (gotC s 10)) := bcell hb4 (by go_simp)
  have z4 : w3.heap.size + 1 < w4.heap.size := by have := hb4.size; simp at this; omega
  have z5 : w3.heap.size < w4.heap.size := by omega
  have z6 : w3.heap.size < w4.heap.size + 1 := by omega
  have z7 : w3.heap.size + 1 < w4.heap.size + 1 := by omega
  have m1 : ((wroteS h a b c d).toList == (wroteS h a b c d).toList) = true := beq_self_eq_true _
  have m2 : (wroteE h a b c d == wroteE h a b c d) = true := beq_self_eq_true _
  have m3 : (gotE s == gotE s) = true := beq_self_eq_true _
  go_wp2_with (first | (go_at_call 19; refine (numc _ _).mono ?_; rintro e w' ⟨rfl, rfl⟩) | (go_at_call 28; refine (awake6 _).mono ?_; rintro e w5 ⟨rfl, hb5⟩))
  go_ret
  exact ⟨rfl, below_next (below_alloc (below_alloc (below_next (below_alloc (below_alloc (below_next (below_next (below_next (below_alloc (below_alloc (Below.refl _ _) _) _) hb1) hb2) hb3) _) _) hb4) _) _) hb5⟩
end Go.Proofs.Ytccnckppkkhoeaa.Hd
