/- wimplelaw6.HeadBits answers true, for all whole numbers. -/
import Derived.Test.YtccnckppkkhoeaaHeadBitsW
import Derived.Lib.Hide
import Derived.Deep.DeepCutAuto
import Derived.Deep.CutBlock
import Derived.BigRegion
import Derived.RegionTactic
import Derived.Deep.RegionWith
import Derived.Lib.QuietBelow
import Derived.BigQuiet
namespace Go.Proofs.Ytccnckppkkhoeaa.Hd
open Go.RowKit Go.PlainAid Go.Proofs.Ytccnckppkkhoeaa.Base Go.Proofs.Ytccnckppkkhoeaa.Oct
set_option linter.unusedVariables false

def L4 : ByteArray := ⟨#[0, 0, 0, 16, 0, 0, 0, 0, 0, 0, 0, 0]⟩
theorem eqL4 : (⟨#[0, 0]⟩ : ByteArray) ++ strOfNums [IntKind.u8.wrap 0, IntKind.u8.wrap (Go.bits .and .i64 16 255)] ++ zeros 8 = L4 := by decide +kernel
theorem gotL4 (w : World) : Calls Try.prog 26 #[.string L4] w fun e w' => e = .returned (.tuple #[.agg #[.int .i64 0, .bool false, .int .i64 0, .bool false, .bool false, .bool false, .bool false, .int .i64 1, .int .i64 0], .agg #[.int .i64 0, .int .i64 0, .int .i64 0, .int .i64 0], .int .i64 0]) ∧ Below w.heap.size w w' := by
  have := got L4 w (by decide)
  rw [show gotE L4 = 0 by decide +kernel, show gotH L4 = ⟨0, false, 0, false, false, false, false, 1, 0⟩ by decide +kernel, show gotC L4 4 = 0 by decide +kernel, show gotC L4 6 = 0 by decide +kernel, show gotC L4 8 = 0 by decide +kernel, show gotC L4 10 = 0 by decide +kernel] at this
  exact this
theorem putL4 (w : World) : Calls Try.prog 24 #[.agg #[.int .i64 0, .bool false, .int .i64 0, .bool false, .bool false, .bool false, .bool false, .int .i64 1, .int .i64 0], .agg #[.int .i64 0, .int .i64 0, .int .i64 0, .int .i64 0]] w fun e w' => e = .returned (.tuple #[.string L4, .int .i64 0]) ∧ Below w.heap.size w w' := by
  have := wrote ⟨0, false, 0, false, false, false, false, 1, 0⟩ 0 0 0 0 w
  rw [show wroteE ⟨0, false, 0, false, false, false, false, 1, 0⟩ 0 0 0 0 = 0 by decide +kernel, show wroteS ⟨0, false, 0, false, false, false, false, 1, 0⟩ 0 0 0 0 = L4 by decide +kernel] at this
  exact this
theorem selfL4 : (L4.toList == L4.toList) = true := beq_self_eq_true _
theorem eqq4 (w : World) : (Op.equalIn 10000 36 (.agg #[.int .i64 0, .bool false, .int .i64 0, .bool false, .bool false, .bool false, .bool false, .int .i64 1, .int .i64 0]) (.agg #[.int .i64 0, .bool false, .int .i64 0, .bool false, .bool false, .bool false, .bool false, .int .i64 1, .int .i64 0])).run Try.prog w = .ok true w := by
  have := eqHead ⟨0, false, 0, false, false, false, false, 1, 0⟩ ⟨0, false, 0, false, false, false, false, 1, 0⟩ w
  rw [eqB_self] at this
  exact this
set_option maxHeartbeats 8000000 in
set_option maxRecDepth 100000 in
theorem bits_4 (u : Int) (w : World) (hk : Go.bits .and .i64 u 15 = 4) :
    Calls Try.prog 9 #[.int .i64 u] w fun e w' => e = .returned (.bool true) ∧ Below w.heap.size w w' := by
  go_enter Try.func9, Try.ntmps9
  go_wp2_with fail
  refine (awake6 _).mono ?_
  rintro e w1 ⟨rfl, hb1⟩
  go_upto_region 5 with (fail)
  go_cut [5] (fun v5 wc => v5 = .string L4 ∧ Below w.heap.size w wc)
  case first =>
    have hmk : ∀ w, (Instr.makeSlice 49 (.int .i64 8) (.int .i64 8)).run Try.prog w = .ok (.slice (some ⟨w.heap.size, 0, none⟩) 8 8) (w.alloc (.cells #[.int .u8 0, .int .u8 0, .int .u8 0, .int .u8 0, .int .u8 0, .int .u8 0, .int .u8 0, .int .u8 0] 5)) := fun _ => by kernel_rfl
    have hc2 := conv2 (IntKind.u8.wrap 0) (IntKind.u8.wrap (Go.bits .and .i64 16 255))
    have hc8 := conv8
    have z2 := strs_size (IntKind.u8.wrap 0) (IntKind.u8.wrap (Go.bits .and .i64 16 255))
    have z8 := zeros_size 8
    go_region_with (fail)
    all_goals
      go_wp2
      go_meet
      case rel => exact ⟨congrArg Value.string eqL4, below_drew (below_alloc (below_alloc hb1 _) _)⟩
  case rest =>
  obtain ⟨rfl, hbc⟩ := hcut
  have q1 := eqq4
  have q2 := eqArr 0 0 0 0
  have q3 := selfL4
  go_wp2_with fail
  refine (gotL4 _).mono ?_
  rintro e w2 ⟨rfl, hb2⟩
  go_wp2_with fail
  refine (putL4 _).mono ?_
  rintro e w3 ⟨rfl, hb3⟩
  have x0 : w3.cell? ⟨w2.heap.size, 0, none⟩ = some (.int .i64 0) := bcell hb3 (by go_simp)
  have x1 : w3.cell? ⟨w2.heap.size, 1, none⟩ = some (.bool false) := bcell hb3 (by go_simp)
  have x2 : w3.cell? ⟨w2.heap.size, 2, none⟩ = some (.int .i64 0) := bcell hb3 (by go_simp)
  have x3 : w3.cell? ⟨w2.heap.size, 3, none⟩ = some (.bool false) := bcell hb3 (by go_simp)
  have x4 : w3.cell? ⟨w2.heap.size, 4, none⟩ = some (.bool false) := bcell hb3 (by go_simp)
  have x5 : w3.cell? ⟨w2.heap.size, 5, none⟩ = some (.bool false) := bcell hb3 (by go_simp)
  have x6 : w3.cell? ⟨w2.heap.size, 6, none⟩ = some (.bool false) := bcell hb3 (by go_simp)
  have x7 : w3.cell? ⟨w2.heap.size, 7, none⟩ = some (.int .i64 1) := bcell hb3 (by go_simp)
  have x8 : w3.cell? ⟨w2.heap.size, 8, none⟩ = some (.int .i64 0) := bcell hb3 (by go_simp)
  have y0 : w3.cell? ⟨w2.heap.size + 1, 0, none⟩ = some (.int .i64 0) := bcell hb3 (by go_simp)
  have y1 : w3.cell? ⟨w2.heap.size + 1, 1, none⟩ = some (.int .i64 0) := bcell hb3 (by go_simp)
  have y2 : w3.cell? ⟨w2.heap.size + 1, 2, none⟩ = some (.int .i64 0) := bcell hb3 (by go_simp)
  have y3 : w3.cell? ⟨w2.heap.size + 1, 3, none⟩ = some (.int .i64 0) := bcell hb3 (by go_simp)
  have v0 : w3.cell? ⟨w2.heap.size + 1 + 1, 36, none⟩ = some (.int .i64 0) := bcell hb3 (by go_simp)
  have v1 : w3.cell? ⟨w2.heap.size + 1 + 1, 37, none⟩ = some (.bool false) := bcell hb3 (by go_simp)
  have v2 : w3.cell? ⟨w2.heap.size + 1 + 1, 38, none⟩ = some (.int .i64 0) := bcell hb3 (by go_simp)
  have v3 : w3.cell? ⟨w2.heap.size + 1 + 1, 39, none⟩ = some (.bool false) := bcell hb3 (by go_simp)
  have v4 : w3.cell? ⟨w2.heap.size + 1 + 1, 40, none⟩ = some (.bool false) := bcell hb3 (by go_simp)
  have v5 : w3.cell? ⟨w2.heap.size + 1 + 1, 41, none⟩ = some (.bool false) := bcell hb3 (by go_simp)
  have v6 : w3.cell? ⟨w2.heap.size + 1 + 1, 42, none⟩ = some (.bool false) := bcell hb3 (by go_simp)
  have v7 : w3.cell? ⟨w2.heap.size + 1 + 1, 43, none⟩ = some (.int .i64 1) := bcell hb3 (by go_simp)
  have v8 : w3.cell? ⟨w2.heap.size + 1 + 1, 44, none⟩ = some (.int .i64 0) := bcell hb3 (by go_simp)
  go_wp2_with fail
  have rx0 := cell_regrown x0
  have rx1 := cell_regrown x1
  have rx2 := cell_regrown x2
  have rx3 := cell_regrown x3
  have rx4 := cell_regrown x4
  have rx5 := cell_regrown x5
  have rx6 := cell_regrown x6
  have rx7 := cell_regrown x7
  have rx8 := cell_regrown x8
  have ry0 := cell_regrown y0
  have ry1 := cell_regrown y1
  have ry2 := cell_regrown y2
  have ry3 := cell_regrown y3
  have rv0 := cell_regrown v0
  have rv1 := cell_regrown v1
  have rv2 := cell_regrown v2
  have rv3 := cell_regrown v3
  have rv4 := cell_regrown v4
  have rv5 := cell_regrown v5
  have rv6 := cell_regrown v6
  have rv7 := cell_regrown v7
  have rv8 := cell_regrown v8
  refine wp_region_quiet_below (by kernel_rfl) (by kernel_rfl) ?_
  repeat (go_big_quiet_step (exact Calls.regrown_of (same_below (numc _ _))))
  refine wpQuiet_nil ?_
  intro _ hw'
  obtain ⟨⟨dq, osq⟩, hw''⟩ := hw'
  subst hw''
  go_wp2
  go_ret
  exact ⟨rfl, below_next (below_next (below_alloc (below_alloc (below_alloc (below_next hbc hb2) _) _) _) hb3) (below_regrown _ _ _)⟩
def L5 : ByteArray := ⟨#[0, 0, 0, 32, 0, 0, 0, 0, 0, 0, 0, 0]⟩
theorem eqL5 : (⟨#[0, 0]⟩ : ByteArray) ++ strOfNums [IntKind.u8.wrap 0, IntKind.u8.wrap (Go.bits .and .i64 32 255)] ++ zeros 8 = L5 := by decide +kernel
theorem gotL5 (w : World) : Calls Try.prog 26 #[.string L5] w fun e w' => e = .returned (.tuple #[.agg #[.int .i64 0, .bool false, .int .i64 0, .bool false, .bool false, .bool false, .bool false, .int .i64 2, .int .i64 0], .agg #[.int .i64 0, .int .i64 0, .int .i64 0, .int .i64 0], .int .i64 0]) ∧ Below w.heap.size w w' := by
  have := got L5 w (by decide)
  rw [show gotE L5 = 0 by decide +kernel, show gotH L5 = ⟨0, false, 0, false, false, false, false, 2, 0⟩ by decide +kernel, show gotC L5 4 = 0 by decide +kernel, show gotC L5 6 = 0 by decide +kernel, show gotC L5 8 = 0 by decide +kernel, show gotC L5 10 = 0 by decide +kernel] at this
  exact this
theorem putL5 (w : World) : Calls Try.prog 24 #[.agg #[.int .i64 0, .bool false, .int .i64 0, .bool false, .bool false, .bool false, .bool false, .int .i64 2, .int .i64 0], .agg #[.int .i64 0, .int .i64 0, .int .i64 0, .int .i64 0]] w fun e w' => e = .returned (.tuple #[.string L5, .int .i64 0]) ∧ Below w.heap.size w w' := by
  have := wrote ⟨0, false, 0, false, false, false, false, 2, 0⟩ 0 0 0 0 w
  rw [show wroteE ⟨0, false, 0, false, false, false, false, 2, 0⟩ 0 0 0 0 = 0 by decide +kernel, show wroteS ⟨0, false, 0, false, false, false, false, 2, 0⟩ 0 0 0 0 = L5 by decide +kernel] at this
  exact this
theorem selfL5 : (L5.toList == L5.toList) = true := beq_self_eq_true _
theorem eqq5 (w : World) : (Op.equalIn 10000 36 (.agg #[.int .i64 0, .bool false, .int .i64 0, .bool false, .bool false, .bool false, .bool false, .int .i64 2, .int .i64 0]) (.agg #[.int .i64 0, .bool false, .int .i64 0, .bool false, .bool false, .bool false, .bool false, .int .i64 2, .int .i64 0])).run Try.prog w = .ok true w := by
  have := eqHead ⟨0, false, 0, false, false, false, false, 2, 0⟩ ⟨0, false, 0, false, false, false, false, 2, 0⟩ w
  rw [eqB_self] at this
  exact this
set_option maxHeartbeats 8000000 in
set_option maxRecDepth 100000 in
theorem bits_5 (u : Int) (w : World) (hk : Go.bits .and .i64 u 15 = 5) :
    Calls Try.prog 9 #[.int .i64 u] w fun e w' => e = .returned (.bool true) ∧ Below w.heap.size w w' := by
  go_enter Try.func9, Try.ntmps9
  go_wp2_with fail
  refine (awake6 _).mono ?_
  rintro e w1 ⟨rfl, hb1⟩
  go_upto_region 5 with (fail)
  go_cut [5] (fun v5 wc => v5 = .string L5 ∧ Below w.heap.size w wc)
  case first =>
    have hmk : ∀ w, (Instr.makeSlice 49 (.int .i64 8) (.int .i64 8)).run Try.prog w = .ok (.slice (some ⟨w.heap.size, 0, none⟩) 8 8) (w.alloc (.cells #[.int .u8 0, .int .u8 0, .int .u8 0, .int .u8 0, .int .u8 0, .int .u8 0, .int .u8 0, .int .u8 0] 5)) := fun _ => by kernel_rfl
    have hc2 := conv2 (IntKind.u8.wrap 0) (IntKind.u8.wrap (Go.bits .and .i64 32 255))
    have hc8 := conv8
    have z2 := strs_size (IntKind.u8.wrap 0) (IntKind.u8.wrap (Go.bits .and .i64 32 255))
    have z8 := zeros_size 8
    go_region_with (fail)
    all_goals
      go_wp2
      go_meet
      case rel => exact ⟨congrArg Value.string eqL5, below_drew (below_alloc (below_alloc hb1 _) _)⟩
  case rest =>
  obtain ⟨rfl, hbc⟩ := hcut
  have q1 := eqq5
  have q2 := eqArr 0 0 0 0
  have q3 := selfL5
  go_wp2_with fail
  refine (gotL5 _).mono ?_
  rintro e w2 ⟨rfl, hb2⟩
  go_wp2_with fail
  refine (putL5 _).mono ?_
  rintro e w3 ⟨rfl, hb3⟩
  have x0 : w3.cell? ⟨w2.heap.size, 0, none⟩ = some (.int .i64 0) := bcell hb3 (by go_simp)
  have x1 : w3.cell? ⟨w2.heap.size, 1, none⟩ = some (.bool false) := bcell hb3 (by go_simp)
  have x2 : w3.cell? ⟨w2.heap.size, 2, none⟩ = some (.int .i64 0) := bcell hb3 (by go_simp)
  have x3 : w3.cell? ⟨w2.heap.size, 3, none⟩ = some (.bool false) := bcell hb3 (by go_simp)
  have x4 : w3.cell? ⟨w2.heap.size, 4, none⟩ = some (.bool false) := bcell hb3 (by go_simp)
  have x5 : w3.cell? ⟨w2.heap.size, 5, none⟩ = some (.bool false) := bcell hb3 (by go_simp)
  have x6 : w3.cell? ⟨w2.heap.size, 6, none⟩ = some (.bool false) := bcell hb3 (by go_simp)
  have x7 : w3.cell? ⟨w2.heap.size, 7, none⟩ = some (.int .i64 2) := bcell hb3 (by go_simp)
  have x8 : w3.cell? ⟨w2.heap.size, 8, none⟩ = some (.int .i64 0) := bcell hb3 (by go_simp)
  have y0 : w3.cell? ⟨w2.heap.size + 1, 0, none⟩ = some (.int .i64 0) := bcell hb3 (by go_simp)
  have y1 : w3.cell? ⟨w2.heap.size + 1, 1, none⟩ = some (.int .i64 0) := bcell hb3 (by go_simp)
  have y2 : w3.cell? ⟨w2.heap.size + 1, 2, none⟩ = some (.int .i64 0) := bcell hb3 (by go_simp)
  have y3 : w3.cell? ⟨w2.heap.size + 1, 3, none⟩ = some (.int .i64 0) := bcell hb3 (by go_simp)
  have v0 : w3.cell? ⟨w2.heap.size + 1 + 1, 45, none⟩ = some (.int .i64 0) := bcell hb3 (by go_simp)
  have v1 : w3.cell? ⟨w2.heap.size + 1 + 1, 46, none⟩ = some (.bool false) := bcell hb3 (by go_simp)
  have v2 : w3.cell? ⟨w2.heap.size + 1 + 1, 47, none⟩ = some (.int .i64 0) := bcell hb3 (by go_simp)
  have v3 : w3.cell? ⟨w2.heap.size + 1 + 1, 48, none⟩ = some (.bool false) := bcell hb3 (by go_simp)
  have v4 : w3.cell? ⟨w2.heap.size + 1 + 1, 49, none⟩ = some (.bool false) := bcell hb3 (by go_simp)
  have v5 : w3.cell? ⟨w2.heap.size + 1 + 1, 50, none⟩ = some (.bool false) := bcell hb3 (by go_simp)
  have v6 : w3.cell? ⟨w2.heap.size + 1 + 1, 51, none⟩ = some (.bool false) := bcell hb3 (by go_simp)
  have v7 : w3.cell? ⟨w2.heap.size + 1 + 1, 52, none⟩ = some (.int .i64 2) := bcell hb3 (by go_simp)
  have v8 : w3.cell? ⟨w2.heap.size + 1 + 1, 53, none⟩ = some (.int .i64 0) := bcell hb3 (by go_simp)
  go_wp2_with fail
  have rx0 := cell_regrown x0
  have rx1 := cell_regrown x1
  have rx2 := cell_regrown x2
  have rx3 := cell_regrown x3
  have rx4 := cell_regrown x4
  have rx5 := cell_regrown x5
  have rx6 := cell_regrown x6
  have rx7 := cell_regrown x7
  have rx8 := cell_regrown x8
  have ry0 := cell_regrown y0
  have ry1 := cell_regrown y1
  have ry2 := cell_regrown y2
  have ry3 := cell_regrown y3
  have rv0 := cell_regrown v0
  have rv1 := cell_regrown v1
  have rv2 := cell_regrown v2
  have rv3 := cell_regrown v3
  have rv4 := cell_regrown v4
  have rv5 := cell_regrown v5
  have rv6 := cell_regrown v6
  have rv7 := cell_regrown v7
  have rv8 := cell_regrown v8
  refine wp_region_quiet_below (by kernel_rfl) (by kernel_rfl) ?_
  repeat (go_big_quiet_step (exact Calls.regrown_of (same_below (numc _ _))))
  refine wpQuiet_nil ?_
  intro _ hw'
  obtain ⟨⟨dq, osq⟩, hw''⟩ := hw'
  subst hw''
  go_wp2
  go_ret
  exact ⟨rfl, below_next (below_next (below_alloc (below_alloc (below_alloc (below_next hbc hb2) _) _) _) hb3) (below_regrown _ _ _)⟩
def L6 : ByteArray := ⟨#[0, 0, 0, 64, 0, 0, 0, 0, 0, 0, 0, 0]⟩
theorem eqL6 : (⟨#[0, 0]⟩ : ByteArray) ++ strOfNums [IntKind.u8.wrap 0, IntKind.u8.wrap (Go.bits .and .i64 64 255)] ++ zeros 8 = L6 := by decide +kernel
theorem gotL6 (w : World) : Calls Try.prog 26 #[.string L6] w fun e w' => e = .returned (.tuple #[.agg #[.int .i64 0, .bool false, .int .i64 0, .bool false, .bool false, .bool false, .bool false, .int .i64 4, .int .i64 0], .agg #[.int .i64 0, .int .i64 0, .int .i64 0, .int .i64 0], .int .i64 0]) ∧ Below w.heap.size w w' := by
  have := got L6 w (by decide)
  rw [show gotE L6 = 0 by decide +kernel, show gotH L6 = ⟨0, false, 0, false, false, false, false, 4, 0⟩ by decide +kernel, show gotC L6 4 = 0 by decide +kernel, show gotC L6 6 = 0 by decide +kernel, show gotC L6 8 = 0 by decide +kernel, show gotC L6 10 = 0 by decide +kernel] at this
  exact this
theorem putL6 (w : World) : Calls Try.prog 24 #[.agg #[.int .i64 0, .bool false, .int .i64 0, .bool false, .bool false, .bool false, .bool false, .int .i64 4, .int .i64 0], .agg #[.int .i64 0, .int .i64 0, .int .i64 0, .int .i64 0]] w fun e w' => e = .returned (.tuple #[.string L6, .int .i64 0]) ∧ Below w.heap.size w w' := by
  have := wrote ⟨0, false, 0, false, false, false, false, 4, 0⟩ 0 0 0 0 w
  rw [show wroteE ⟨0, false, 0, false, false, false, false, 4, 0⟩ 0 0 0 0 = 0 by decide +kernel, show wroteS ⟨0, false, 0, false, false, false, false, 4, 0⟩ 0 0 0 0 = L6 by decide +kernel] at this
  exact this
theorem selfL6 : (L6.toList == L6.toList) = true := beq_self_eq_true _
theorem eqq6 (w : World) : (Op.equalIn 10000 36 (.agg #[.int .i64 0, .bool false, .int .i64 0, .bool false, .bool false, .bool false, .bool false, .int .i64 4, .int .i64 0]) (.agg #[.int .i64 0, .bool false, .int .i64 0, .bool false, .bool false, .bool false, .bool false, .int .i64 4, .int .i64 0])).run Try.prog w = .ok true w := by
  have := eqHead ⟨0, false, 0, false, false, false, false, 4, 0⟩ ⟨0, false, 0, false, false, false, false, 4, 0⟩ w
  rw [eqB_self] at this
  exact this
set_option maxHeartbeats 8000000 in
set_option maxRecDepth 100000 in
theorem bits_6 (u : Int) (w : World) (hk : Go.bits .and .i64 u 15 = 6) :
    Calls Try.prog 9 #[.int .i64 u] w fun e w' => e = .returned (.bool true) ∧ Below w.heap.size w w' := by
  go_enter Try.func9, Try.ntmps9
  go_wp2_with fail
  refine (awake6 _).mono ?_
  rintro e w1 ⟨rfl, hb1⟩
  go_upto_region 5 with (fail)
  go_cut [5] (fun v5 wc => v5 = .string L6 ∧ Below w.heap.size w wc)
  case first =>
    have hmk : ∀ w, (Instr.makeSlice 49 (.int .i64 8) (.int .i64 8)).run Try.prog w = .ok (.slice (some ⟨w.heap.size, 0, none⟩) 8 8) (w.alloc (.cells #[.int .u8 0, .int .u8 0, .int .u8 0, .int .u8 0, .int .u8 0, .int .u8 0, .int .u8 0, .int .u8 0] 5)) := fun _ => by kernel_rfl
    have hc2 := conv2 (IntKind.u8.wrap 0) (IntKind.u8.wrap (Go.bits .and .i64 64 255))
    have hc8 := conv8
    have z2 := strs_size (IntKind.u8.wrap 0) (IntKind.u8.wrap (Go.bits .and .i64 64 255))
    have z8 := zeros_size 8
    go_region_with (fail)
    all_goals
      go_wp2
      go_meet
      case rel => exact ⟨congrArg Value.string eqL6, below_drew (below_alloc (below_alloc hb1 _) _)⟩
  case rest =>
  obtain ⟨rfl, hbc⟩ := hcut
  have q1 := eqq6
  have q2 := eqArr 0 0 0 0
  have q3 := selfL6
  go_wp2_with fail
  refine (gotL6 _).mono ?_
  rintro e w2 ⟨rfl, hb2⟩
  go_wp2_with fail
  refine (putL6 _).mono ?_
  rintro e w3 ⟨rfl, hb3⟩
  have x0 : w3.cell? ⟨w2.heap.size, 0, none⟩ = some (.int .i64 0) := bcell hb3 (by go_simp)
  have x1 : w3.cell? ⟨w2.heap.size, 1, none⟩ = some (.bool false) := bcell hb3 (by go_simp)
  have x2 : w3.cell? ⟨w2.heap.size, 2, none⟩ = some (.int .i64 0) := bcell hb3 (by go_simp)
  have x3 : w3.cell? ⟨w2.heap.size, 3, none⟩ = some (.bool false) := bcell hb3 (by go_simp)
  have x4 : w3.cell? ⟨w2.heap.size, 4, none⟩ = some (.bool false) := bcell hb3 (by go_simp)
  have x5 : w3.cell? ⟨w2.heap.size, 5, none⟩ = some (.bool false) := bcell hb3 (by go_simp)
  have x6 : w3.cell? ⟨w2.heap.size, 6, none⟩ = some (.bool false) := bcell hb3 (by go_simp)
  have x7 : w3.cell? ⟨w2.heap.size, 7, none⟩ = some (.int .i64 4) := bcell hb3 (by go_simp)
  have x8 : w3.cell? ⟨w2.heap.size, 8, none⟩ = some (.int .i64 0) := bcell hb3 (by go_simp)
  have y0 : w3.cell? ⟨w2.heap.size + 1, 0, none⟩ = some (.int .i64 0) := bcell hb3 (by go_simp)
  have y1 : w3.cell? ⟨w2.heap.size + 1, 1, none⟩ = some (.int .i64 0) := bcell hb3 (by go_simp)
  have y2 : w3.cell? ⟨w2.heap.size + 1, 2, none⟩ = some (.int .i64 0) := bcell hb3 (by go_simp)
  have y3 : w3.cell? ⟨w2.heap.size + 1, 3, none⟩ = some (.int .i64 0) := bcell hb3 (by go_simp)
  have v0 : w3.cell? ⟨w2.heap.size + 1 + 1, 54, none⟩ = some (.int .i64 0) := bcell hb3 (by go_simp)
  have v1 : w3.cell? ⟨w2.heap.size + 1 + 1, 55, none⟩ = some (.bool false) := bcell hb3 (by go_simp)
  have v2 : w3.cell? ⟨w2.heap.size + 1 + 1, 56, none⟩ = some (.int .i64 0) := bcell hb3 (by go_simp)
  have v3 : w3.cell? ⟨w2.heap.size + 1 + 1, 57, none⟩ = some (.bool false) := bcell hb3 (by go_simp)
  have v4 : w3.cell? ⟨w2.heap.size + 1 + 1, 58, none⟩ = some (.bool false) := bcell hb3 (by go_simp)
  have v5 : w3.cell? ⟨w2.heap.size + 1 + 1, 59, none⟩ = some (.bool false) := bcell hb3 (by go_simp)
  have v6 : w3.cell? ⟨w2.heap.size + 1 + 1, 60, none⟩ = some (.bool false) := bcell hb3 (by go_simp)
  have v7 : w3.cell? ⟨w2.heap.size + 1 + 1, 61, none⟩ = some (.int .i64 4) := bcell hb3 (by go_simp)
  have v8 : w3.cell? ⟨w2.heap.size + 1 + 1, 62, none⟩ = some (.int .i64 0) := bcell hb3 (by go_simp)
  go_wp2_with fail
  have rx0 := cell_regrown x0
  have rx1 := cell_regrown x1
  have rx2 := cell_regrown x2
  have rx3 := cell_regrown x3
  have rx4 := cell_regrown x4
  have rx5 := cell_regrown x5
  have rx6 := cell_regrown x6
  have rx7 := cell_regrown x7
  have rx8 := cell_regrown x8
  have ry0 := cell_regrown y0
  have ry1 := cell_regrown y1
  have ry2 := cell_regrown y2
  have ry3 := cell_regrown y3
  have rv0 := cell_regrown v0
  have rv1 := cell_regrown v1
  have rv2 := cell_regrown v2
  have rv3 := cell_regrown v3
  have rv4 := cell_regrown v4
  have rv5 := cell_regrown v5
  have rv6 := cell_regrown v6
  have rv7 := cell_regrown v7
  have rv8 := cell_regrown v8
  refine wp_region_quiet_below (by kernel_rfl) (by kernel_rfl) ?_
  repeat (go_big_quiet_step (exact Calls.regrown_of (same_below (numc _ _))))
  refine wpQuiet_nil ?_
  intro _ hw'
  obtain ⟨⟨dq, osq⟩, hw''⟩ := hw'
  subst hw''
  go_wp2
  go_ret
  exact ⟨rfl, below_next (below_next (below_alloc (below_alloc (below_alloc (below_next hbc hb2) _) _) _) hb3) (below_regrown _ _ _)⟩
def L7 : ByteArray := ⟨#[0, 0, 0, 128, 0, 0, 0, 0, 0, 0, 0, 0]⟩
theorem eqL7 : (⟨#[0, 0]⟩ : ByteArray) ++ strOfNums [IntKind.u8.wrap 0, IntKind.u8.wrap (Go.bits .and .i64 128 255)] ++ zeros 8 = L7 := by decide +kernel
theorem gotL7 (w : World) : Calls Try.prog 26 #[.string L7] w fun e w' => e = .returned (.tuple #[.agg #[.int .i64 0, .bool false, .int .i64 0, .bool false, .bool false, .bool false, .bool true, .int .i64 0, .int .i64 0], .agg #[.int .i64 0, .int .i64 0, .int .i64 0, .int .i64 0], .int .i64 0]) ∧ Below w.heap.size w w' := by
  have := got L7 w (by decide)
  rw [show gotE L7 = 0 by decide +kernel, show gotH L7 = ⟨0, false, 0, false, false, false, true, 0, 0⟩ by decide +kernel, show gotC L7 4 = 0 by decide +kernel, show gotC L7 6 = 0 by decide +kernel, show gotC L7 8 = 0 by decide +kernel, show gotC L7 10 = 0 by decide +kernel] at this
  exact this
theorem putL7 (w : World) : Calls Try.prog 24 #[.agg #[.int .i64 0, .bool false, .int .i64 0, .bool false, .bool false, .bool false, .bool true, .int .i64 0, .int .i64 0], .agg #[.int .i64 0, .int .i64 0, .int .i64 0, .int .i64 0]] w fun e w' => e = .returned (.tuple #[.string L7, .int .i64 0]) ∧ Below w.heap.size w w' := by
  have := wrote ⟨0, false, 0, false, false, false, true, 0, 0⟩ 0 0 0 0 w
  rw [show wroteE ⟨0, false, 0, false, false, false, true, 0, 0⟩ 0 0 0 0 = 0 by decide +kernel, show wroteS ⟨0, false, 0, false, false, false, true, 0, 0⟩ 0 0 0 0 = L7 by decide +kernel] at this
  exact this
theorem selfL7 : (L7.toList == L7.toList) = true := beq_self_eq_true _
theorem eqq7 (w : World) : (Op.equalIn 10000 36 (.agg #[.int .i64 0, .bool false, .int .i64 0, .bool false, .bool false, .bool false, .bool true, .int .i64 0, .int .i64 0]) (.agg #[.int .i64 0, .bool false, .int .i64 0, .bool false, .bool false, .bool false, .bool true, .int .i64 0, .int .i64 0])).run Try.prog w = .ok true w := by
  have := eqHead ⟨0, false, 0, false, false, false, true, 0, 0⟩ ⟨0, false, 0, false, false, false, true, 0, 0⟩ w
  rw [eqB_self] at this
  exact this
set_option maxHeartbeats 8000000 in
set_option maxRecDepth 100000 in
theorem bits_7 (u : Int) (w : World) (hk : Go.bits .and .i64 u 15 = 7) :
    Calls Try.prog 9 #[.int .i64 u] w fun e w' => e = .returned (.bool true) ∧ Below w.heap.size w w' := by
  go_enter Try.func9, Try.ntmps9
  go_wp2_with fail
  refine (awake6 _).mono ?_
  rintro e w1 ⟨rfl, hb1⟩
  go_upto_region 5 with (fail)
  go_cut [5] (fun v5 wc => v5 = .string L7 ∧ Below w.heap.size w wc)
  case first =>
    have hmk : ∀ w, (Instr.makeSlice 49 (.int .i64 8) (.int .i64 8)).run Try.prog w = .ok (.slice (some ⟨w.heap.size, 0, none⟩) 8 8) (w.alloc (.cells #[.int .u8 0, .int .u8 0, .int .u8 0, .int .u8 0, .int .u8 0, .int .u8 0, .int .u8 0, .int .u8 0] 5)) := fun _ => by kernel_rfl
    have hc2 := conv2 (IntKind.u8.wrap 0) (IntKind.u8.wrap (Go.bits .and .i64 128 255))
    have hc8 := conv8
    have z2 := strs_size (IntKind.u8.wrap 0) (IntKind.u8.wrap (Go.bits .and .i64 128 255))
    have z8 := zeros_size 8
    go_region_with (fail)
    all_goals
      go_wp2
      go_meet
      case rel => exact ⟨congrArg Value.string eqL7, below_drew (below_alloc (below_alloc hb1 _) _)⟩
  case rest =>
  obtain ⟨rfl, hbc⟩ := hcut
  have q1 := eqq7
  have q2 := eqArr 0 0 0 0
  have q3 := selfL7
  go_wp2_with fail
  refine (gotL7 _).mono ?_
  rintro e w2 ⟨rfl, hb2⟩
  go_wp2_with fail
  refine (putL7 _).mono ?_
  rintro e w3 ⟨rfl, hb3⟩
  have x0 : w3.cell? ⟨w2.heap.size, 0, none⟩ = some (.int .i64 0) := bcell hb3 (by go_simp)
  have x1 : w3.cell? ⟨w2.heap.size, 1, none⟩ = some (.bool false) := bcell hb3 (by go_simp)
  have x2 : w3.cell? ⟨w2.heap.size, 2, none⟩ = some (.int .i64 0) := bcell hb3 (by go_simp)
  have x3 : w3.cell? ⟨w2.heap.size, 3, none⟩ = some (.bool false) := bcell hb3 (by go_simp)
  have x4 : w3.cell? ⟨w2.heap.size, 4, none⟩ = some (.bool false) := bcell hb3 (by go_simp)
  have x5 : w3.cell? ⟨w2.heap.size, 5, none⟩ = some (.bool false) := bcell hb3 (by go_simp)
  have x6 : w3.cell? ⟨w2.heap.size, 6, none⟩ = some (.bool true) := bcell hb3 (by go_simp)
  have x7 : w3.cell? ⟨w2.heap.size, 7, none⟩ = some (.int .i64 0) := bcell hb3 (by go_simp)
  have x8 : w3.cell? ⟨w2.heap.size, 8, none⟩ = some (.int .i64 0) := bcell hb3 (by go_simp)
  have y0 : w3.cell? ⟨w2.heap.size + 1, 0, none⟩ = some (.int .i64 0) := bcell hb3 (by go_simp)
  have y1 : w3.cell? ⟨w2.heap.size + 1, 1, none⟩ = some (.int .i64 0) := bcell hb3 (by go_simp)
  have y2 : w3.cell? ⟨w2.heap.size + 1, 2, none⟩ = some (.int .i64 0) := bcell hb3 (by go_simp)
  have y3 : w3.cell? ⟨w2.heap.size + 1, 3, none⟩ = some (.int .i64 0) := bcell hb3 (by go_simp)
  have v0 : w3.cell? ⟨w2.heap.size + 1 + 1, 63, none⟩ = some (.int .i64 0) := bcell hb3 (by go_simp)
  have v1 : w3.cell? ⟨w2.heap.size + 1 + 1, 64, none⟩ = some (.bool false) := bcell hb3 (by go_simp)
  have v2 : w3.cell? ⟨w2.heap.size + 1 + 1, 65, none⟩ = some (.int .i64 0) := bcell hb3 (by go_simp)
  have v3 : w3.cell? ⟨w2.heap.size + 1 + 1, 66, none⟩ = some (.bool false) := bcell hb3 (by go_simp)
  have v4 : w3.cell? ⟨w2.heap.size + 1 + 1, 67, none⟩ = some (.bool false) := bcell hb3 (by go_simp)
  have v5 : w3.cell? ⟨w2.heap.size + 1 + 1, 68, none⟩ = some (.bool false) := bcell hb3 (by go_simp)
  have v6 : w3.cell? ⟨w2.heap.size + 1 + 1, 69, none⟩ = some (.bool true) := bcell hb3 (by go_simp)
  have v7 : w3.cell? ⟨w2.heap.size + 1 + 1, 70, none⟩ = some (.int .i64 0) := bcell hb3 (by go_simp)
  have v8 : w3.cell? ⟨w2.heap.size + 1 + 1, 71, none⟩ = some (.int .i64 0) := bcell hb3 (by go_simp)
  go_wp2_with fail
  have rx0 := cell_regrown x0
  have rx1 := cell_regrown x1
  have rx2 := cell_regrown x2
  have rx3 := cell_regrown x3
  have rx4 := cell_regrown x4
  have rx5 := cell_regrown x5
  have rx6 := cell_regrown x6
  have rx7 := cell_regrown x7
  have rx8 := cell_regrown x8
  have ry0 := cell_regrown y0
  have ry1 := cell_regrown y1
  have ry2 := cell_regrown y2
  have ry3 := cell_regrown y3
  have rv0 := cell_regrown v0
  have rv1 := cell_regrown v1
  have rv2 := cell_regrown v2
  have rv3 := cell_regrown v3
  have rv4 := cell_regrown v4
  have rv5 := cell_regrown v5
  have rv6 := cell_regrown v6
  have rv7 := cell_regrown v7
  have rv8 := cell_regrown v8
  refine wp_region_quiet_below (by kernel_rfl) (by kernel_rfl) ?_
  repeat (go_big_quiet_step (exact Calls.regrown_of (same_below (numc _ _))))
  refine wpQuiet_nil ?_
  intro _ hw'
  obtain ⟨⟨dq, osq⟩, hw''⟩ := hw'
  subst hw''
  go_wp2
  go_ret
  exact ⟨rfl, below_next (below_next (below_alloc (below_alloc (below_alloc (below_next hbc hb2) _) _) _) hb3) (below_regrown _ _ _)⟩
end Go.Proofs.Ytccnckppkkhoeaa.Hd
