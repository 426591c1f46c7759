/- wimplelaw6.awake answers true. -/
import Derived.Test.YtccnckppkkhoeaaHeadEq
import Derived.Lib.Hide
namespace Go.Proofs.Ytccnckppkkhoeaa.Hd
open Go.RowKit Go.PlainAid Go.Proofs.Ytccnckppkkhoeaa.Base Go.Proofs.Ytccnckppkkhoeaa.Oct
set_option linter.unusedVariables false

def hA : Head := ⟨258, true, 2, false, false, true, false, 5, 3⟩
def hB : Head := ⟨0, false, 16, false, false, false, false, 0, 0⟩
def sA : ByteArray := ⟨#[1, 2, 145, 83, 0, 1, 0, 2, 0, 3, 0, 4]⟩
theorem wA : wroteS hA 1 2 3 4 = sA := by decide +kernel
theorem eA : wroteE hA 1 2 3 4 = 0 := by decide +kernel
theorem eB : wroteE hB 0 0 0 0 = 600 := by decide +kernel
theorem gA : gotH sA = hA := by
  unfold gotH; rw [if_pos (by decide)]; decide +kernel
theorem cA : gotC sA 4 = 1 ∧ gotC sA 6 = 2 ∧ gotC sA 8 = 3 ∧ gotC sA 10 = 4 ∧ gotE sA = 0 := by decide +kernel
theorem gE1 : gotE ⟨#[97]⟩ = 600 := by decide +kernel
theorem wroteA (w : World) : Calls Try.prog 24 #[.agg #[.int .i64 258, .bool true, .int .i64 2, .bool false, .bool false, .bool true, .bool false, .int .i64 5, .int .i64 3], .agg #[.int .i64 1, .int .i64 2, .int .i64 3, .int .i64 4]] w fun e w' => e = .returned (.tuple #[.string (⟨#[1, 2, 145, 83, 0, 1, 0, 2, 0, 3, 0, 4]⟩ : ByteArray), .int .i64 0]) ∧ Below w.heap.size w w' := by
  have := wrote hA 1 2 3 4 w
  rw [wA, eA] at this
  exact this
theorem wroteB (w : World) : Calls Try.prog 24 #[.agg #[.int .i64 0, .bool false, .int .i64 16, .bool false, .bool false, .bool false, .bool false, .int .i64 0, .int .i64 0], .agg #[.int .i64 0, .int .i64 0, .int .i64 0, .int .i64 0]] w fun e w' => e = .returned (.tuple #[.string ⟨#[]⟩, .int .i64 600]) ∧ Below w.heap.size w w' := by
  have := wrote hB 0 0 0 0 w
  rw [eB, show wroteS hB 0 0 0 0 = ⟨#[]⟩ by decide +kernel] at this
  exact this
theorem gotA (w : World) : Calls Try.prog 26 #[.string (⟨#[1, 2, 145, 83, 0, 1, 0, 2, 0, 3, 0, 4]⟩ : ByteArray)] w fun e w' => e = .returned (.tuple #[.agg #[.int .i64 258, .bool true, .int .i64 2, .bool false, .bool false, .bool true, .bool false, .int .i64 5, .int .i64 3], .agg #[.int .i64 1, .int .i64 2, .int .i64 3, .int .i64 4], .int .i64 0]) ∧ Below w.heap.size w w' := by
  have := got sA w (by decide)
  rw [gA, cA.1, cA.2.1, cA.2.2.1, cA.2.2.2.1, cA.2.2.2.2] at this
  exact this
theorem gotB (w : World) : Calls Try.prog 26 #[.string ⟨#[97]⟩] w fun e w' => e = .returned (.tuple #[.agg #[.int .i64 0, .bool false, .int .i64 0, .bool false, .bool false, .bool false, .bool false, .int .i64 0, .int .i64 0], .agg #[.int .i64 0, .int .i64 0, .int .i64 0, .int .i64 0], .int .i64 600]) ∧ Below w.heap.size w w' := by
  have := got ⟨#[97]⟩ w (by decide)
  rw [gE1, show gotH ⟨#[97]⟩ = head0 by decide +kernel, show gotC ⟨#[97]⟩ 4 = 0 by decide +kernel, show gotC ⟨#[97]⟩ 6 = 0 by decide +kernel, show gotC ⟨#[97]⟩ 8 = 0 by decide +kernel, show gotC ⟨#[97]⟩ 10 = 0 by decide +kernel] at this
  exact this
set_option maxHeartbeats 2000000 in
theorem awake6 (w : World) : Calls Try.prog 28 #[] w fun e w' => e = .returned (.bool true) ∧ Below w.heap.size w w' := by
  have q1 := eqHead hA hA
  rw [eqB_self] at q1
  have q1' : ∀ w, (Op.equalIn 10000 36 (.agg #[.int .i64 258, .bool true, .int .i64 2, .bool false, .bool false, .bool true, .bool false, .int .i64 5, .int .i64 3]) (.agg #[.int .i64 258, .bool true, .int .i64 2, .bool false, .bool false, .bool true, .bool false, .int .i64 5, .int .i64 3])).run Try.prog w = .ok true w := q1
  clear q1
  have q2 := eqArr 1 2 3 4
  go_enter Try.func28, Try.ntmps28
  go_wp2_with fail
  refine (wroteA _).mono ?_
  rintro e w1 ⟨rfl, hb1⟩
  go_wp2_with fail
  refine (gotA _).mono ?_
  rintro e w2 ⟨rfl, hb2⟩
  go_wp2_with fail
  refine (wroteB _).mono ?_
  rintro e w3 ⟨rfl, hb3⟩
  have x0 : w3.cell? ⟨w2.heap.size, 0, none⟩ = some (.int .i64 258) := bcell hb3 (by go_simp)
  have x1 : w3.cell? ⟨w2.heap.size, 1, none⟩ = some (.bool true) := bcell hb3 (by go_simp)
  have x2 : w3.cell? ⟨w2.heap.size, 2, none⟩ = some (.int .i64 2) := bcell hb3 (by go_simp)
  have x3 : w3.cell? ⟨w2.heap.size, 3, none⟩ = some (.bool false) := bcell hb3 (by go_simp)
  have x4 : w3.cell? ⟨w2.heap.size, 4, none⟩ = some (.bool false) := bcell hb3 (by go_simp)
  have x5 : w3.cell? ⟨w2.heap.size, 5, none⟩ = some (.bool true) := bcell hb3 (by go_simp)
  have x6 : w3.cell? ⟨w2.heap.size, 6, none⟩ = some (.bool false) := bcell hb3 (by go_simp)
  have x7 : w3.cell? ⟨w2.heap.size, 7, none⟩ = some (.int .i64 5) := bcell hb3 (by go_simp)
  have x8 : w3.cell? ⟨w2.heap.size, 8, none⟩ = some (.int .i64 3) := bcell hb3 (by go_simp)
  have y0 : w3.cell? ⟨w2.heap.size + 1, 0, none⟩ = some (.int .i64 1) := bcell hb3 (by go_simp)
  have y1 : w3.cell? ⟨w2.heap.size + 1, 1, none⟩ = some (.int .i64 2) := bcell hb3 (by go_simp)
  have y2 : w3.cell? ⟨w2.heap.size + 1, 2, none⟩ = some (.int .i64 3) := bcell hb3 (by go_simp)
  have y3 : w3.cell? ⟨w2.heap.size + 1, 3, none⟩ = some (.int .i64 4) := bcell hb3 (by go_simp)
  have z3 : w2.heap.size + 1 < w3.heap.size := by have := hb3.size; simp at this; omega
  go_wp2_with fail
  refine (gotB _).mono ?_
  rintro e w4 ⟨rfl, hb4⟩
  have u0 := bcell hb4 x0
  have u1 := bcell hb4 x1
  have u2 := bcell hb4 x2
  have u3 := bcell hb4 x3
  have u4 := bcell hb4 x4
  have u5 := bcell hb4 x5
  have u6 := bcell hb4 x6
  have u7 := bcell hb4 x7
  have u8 := bcell hb4 x8
  have v0 := bcell hb4 y0
  have v1 := bcell hb4 y1
  have v2 := bcell hb4 y2
  have v3 := bcell hb4 y3
  have z4 : w2.heap.size + 1 < w4.heap.size := by have := hb4.size; omega
  have z5 : w2.heap.size < w4.heap.size := by omega
  have z6 : w2.heap.size < w4.heap.size + 1 := by omega
  have z7 : w2.heap.size + 1 < w4.heap.size + 1 := by omega
  clear x0 x1 x2 x3 x4 x5 x6 x7 x8 y0 y1 y2 y3
  go_wp2_with (go_at_call 19; refine (numc _ _).mono ?_; rintro e w' ⟨rfl, rfl⟩)
  go_ret
  exact ⟨rfl, below_alloc (below_alloc (below_next (below_next (below_alloc (below_alloc (below_next hb1 hb2) _) _) hb3) hb4) _) _⟩
end Go.Proofs.Ytccnckppkkhoeaa.Hd
