/- wimplelaw6.HeadBits answers true, for all whole numbers. -/
import Derived.Test.YtccnckppkkhoeaaHeadBitsW
import Derived.Lib.Hide
import Derived.Deep.DeepCutAuto
import Derived.Deep.CutBlock
import Derived.BigRegion
import Derived.RegionTactic
import Derived.Deep.RegionWith
import Derived.Lib.QuietBelow
import Derived.BigQuiet
namespace Go.Proofs.Ytccnckppkkhoeaa.Hd
open Go.RowKit Go.PlainAid Go.Proofs.Ytccnckppkkhoeaa.Base Go.Proofs.Ytccnckppkkhoeaa.Oct
set_option linter.unusedVariables false

def L0 : ByteArray := ⟨#[0, 0, 0, 1, 0, 0, 0, 0, 0, 0, 0, 0]⟩
theorem eqL0 : (⟨#[0, 0]⟩ : ByteArray) ++ strOfNums [IntKind.u8.wrap 0, IntKind.u8.wrap (Go.bits .and .i64 1 255)] ++ zeros 8 = L0 := by decide +kernel
theorem gotL0 (w : World) : Calls Try.prog 26 #[.string L0] w fun e w' => e = .returned (.tuple #[.agg #[.int .i64 0, .bool false, .int .i64 0, .bool false, .bool false, .bool false, .bool false, .int .i64 0, .int .i64 1], .agg #[.int .i64 0, .int .i64 0, .int .i64 0, .int .i64 0], .int .i64 0]) ∧ Below w.heap.size w w' := by
  have := got L0 w (by decide)
  rw [show gotE L0 = 0 by decide +kernel, show gotH L0 = ⟨0, false, 0, false, false, false, false, 0, 1⟩ by decide +kernel, show gotC L0 4 = 0 by decide +kernel, show gotC L0 6 = 0 by decide +kernel, show gotC L0 8 = 0 by decide +kernel, show gotC L0 10 = 0 by decide +kernel] at this
  exact this
theorem putL0 (w : World) : Calls Try.prog 24 #[.agg #[.int .i64 0, .bool false, .int .i64 0, .bool false, .bool false, .bool false, .bool false, .int .i64 0, .int .i64 1], .agg #[.int .i64 0, .int .i64 0, .int .i64 0, .int .i64 0]] w fun e w' => e = .returned (.tuple #[.string L0, .int .i64 0]) ∧ Below w.heap.size w w' := by
  have := wrote ⟨0, false, 0, false, false, false, false, 0, 1⟩ 0 0 0 0 w
  rw [show wroteE ⟨0, false, 0, false, false, false, false, 0, 1⟩ 0 0 0 0 = 0 by decide +kernel, show wroteS ⟨0, false, 0, false, false, false, false, 0, 1⟩ 0 0 0 0 = L0 by decide +kernel] at this
  exact this
theorem selfL0 : (L0.toList == L0.toList) = true := beq_self_eq_true _
theorem eqq0 (w : World) : (Op.equalIn 10000 36 (.agg #[.int .i64 0, .bool false, .int .i64 0, .bool false, .bool false, .bool false, .bool false, .int .i64 0, .int .i64 1]) (.agg #[.int .i64 0, .bool false, .int .i64 0, .bool false, .bool false, .bool false, .bool false, .int .i64 0, .int .i64 1])).run Try.prog w = .ok true w := by
  have := eqHead ⟨0, false, 0, false, false, false, false, 0, 1⟩ ⟨0, false, 0, false, false, false, false, 0, 1⟩ w
  rw [eqB_self] at this
  exact this
set_option maxHeartbeats 8000000 in
set_option maxRecDepth 100000 in
theorem bits_0 (u : Int) (w : World) (hk : Go.bits .and .i64 u 15 = 0) :
    Calls Try.prog 9 #[.int .i64 u] w fun e w' => e = .returned (.bool true) ∧ Below w.heap.size w w' := by
  go_enter Try.func9, Try.ntmps9
  go_wp2_with fail
  refine (awake6 _).mono ?_
  rintro e w1 ⟨rfl, hb1⟩
  go_upto_region 5 with (fail)
  go_cut [5] (fun v5 wc => v5 = .string L0 ∧ Below w.heap.size w wc)
  case first =>
    have hmk : ∀ w, (Instr.makeSlice 49 (.int .i64 8) (.int .i64 8)).run Try.prog w = .ok (.slice (some ⟨w.heap.size, 0, none⟩) 8 8) (w.alloc (.cells #[.int .u8 0, .int .u8 0, .int .u8 0, .int .u8 0, .int .u8 0, .int .u8 0, .int .u8 0, .int .u8 0] 5)) := fun _ => by kernel_rfl
    have hc2 := conv2 (IntKind.u8.wrap 0) (IntKind.u8.wrap (Go.bits .and .i64 1 255))
    have hc8 := conv8
    have z2 := strs_size (IntKind.u8.wrap 0) (IntKind.u8.wrap (Go.bits .and .i64 1 255))
    have z8 := zeros_size 8
    go_region_with (fail)
    all_goals
      go_wp2
      go_meet
      case rel => exact ⟨congrArg Value.string eqL0, below_drew (below_alloc (below_alloc hb1 _) _)⟩
  case rest =>
  obtain ⟨rfl, hbc⟩ := hcut
  have q1 := eqq0
  have q2 := eqArr 0 0 0 0
  have q3 := selfL0
  go_wp2_with fail
  refine (gotL0 _).mono ?_
  rintro e w2 ⟨rfl, hb2⟩
  go_wp2_with fail
  refine (putL0 _).mono ?_
  rintro e w3 ⟨rfl, hb3⟩
  have x0 : w3.cell? ⟨w2.heap.size, 0, none⟩ = some (.int .i64 0) := bcell hb3 (by go_simp)
  have x1 : w3.cell? ⟨w2.heap.size, 1, none⟩ = some (.bool false) := bcell hb3 (by go_simp)
  have x2 : w3.cell? ⟨w2.heap.size, 2, none⟩ = some (.int .i64 0) := bcell hb3 (by go_simp)
  have x3 : w3.cell? ⟨w2.heap.size, 3, none⟩ = some (.bool false) := bcell hb3 (by go_simp)
  have x4 : w3.cell? ⟨w2.heap.size, 4, none⟩ = some (.bool false) := bcell hb3 (by go_simp)
  have x5 : w3.cell? ⟨w2.heap.size, 5, none⟩ = some (.bool false) := bcell hb3 (by go_simp)
  have x6 : w3.cell? ⟨w2.heap.size, 6, none⟩ = some (.bool false) := bcell hb3 (by go_simp)
  have x7 : w3.cell? ⟨w2.heap.size, 7, none⟩ = some (.int .i64 0) := bcell hb3 (by go_simp)
  have x8 : w3.cell? ⟨w2.heap.size, 8, none⟩ = some (.int .i64 1) := bcell hb3 (by go_simp)
  have y0 : w3.cell? ⟨w2.heap.size + 1, 0, none⟩ = some (.int .i64 0) := bcell hb3 (by go_simp)
  have y1 : w3.cell? ⟨w2.heap.size + 1, 1, none⟩ = some (.int .i64 0) := bcell hb3 (by go_simp)
  have y2 : w3.cell? ⟨w2.heap.size + 1, 2, none⟩ = some (.int .i64 0) := bcell hb3 (by go_simp)
  have y3 : w3.cell? ⟨w2.heap.size + 1, 3, none⟩ = some (.int .i64 0) := bcell hb3 (by go_simp)
  have v0 : w3.cell? ⟨w2.heap.size + 1 + 1, 0, none⟩ = some (.int .i64 0) := bcell hb3 (by go_simp)
  have v1 : w3.cell? ⟨w2.heap.size + 1 + 1, 1, none⟩ = some (.bool false) := bcell hb3 (by go_simp)
  have v2 : w3.cell? ⟨w2.heap.size + 1 + 1, 2, none⟩ = some (.int .i64 0) := bcell hb3 (by go_simp)
  have v3 : w3.cell? ⟨w2.heap.size + 1 + 1, 3, none⟩ = some (.bool false) := bcell hb3 (by go_simp)
  have v4 : w3.cell? ⟨w2.heap.size + 1 + 1, 4, none⟩ = some (.bool false) := bcell hb3 (by go_simp)
  have v5 : w3.cell? ⟨w2.heap.size + 1 + 1, 5, none⟩ = some (.bool false) := bcell hb3 (by go_simp)
  have v6 : w3.cell? ⟨w2.heap.size + 1 + 1, 6, none⟩ = some (.bool false) := bcell hb3 (by go_simp)
  have v7 : w3.cell? ⟨w2.heap.size + 1 + 1, 7, none⟩ = some (.int .i64 0) := bcell hb3 (by go_simp)
  have v8 : w3.cell? ⟨w2.heap.size + 1 + 1, 8, none⟩ = some (.int .i64 1) := bcell hb3 (by go_simp)
  go_wp2_with fail
  have rx0 := cell_regrown x0
  have rx1 := cell_regrown x1
  have rx2 := cell_regrown x2
  have rx3 := cell_regrown x3
  have rx4 := cell_regrown x4
  have rx5 := cell_regrown x5
  have rx6 := cell_regrown x6
  have rx7 := cell_regrown x7
  have rx8 := cell_regrown x8
  have ry0 := cell_regrown y0
  have ry1 := cell_regrown y1
  have ry2 := cell_regrown y2
  have ry3 := cell_regrown y3
  have rv0 := cell_regrown v0
  have rv1 := cell_regrown v1
  have rv2 := cell_regrown v2
  have rv3 := cell_regrown v3
  have rv4 := cell_regrown v4
  have rv5 := cell_regrown v5
  have rv6 := cell_regrown v6
  have rv7 := cell_regrown v7
  have rv8 := cell_regrown v8
  refine wp_region_quiet_below (by kernel_rfl) (by kernel_rfl) ?_
  repeat (go_big_quiet_step (exact Calls.regrown_of (same_below (numc _ _))))
  refine wpQuiet_nil ?_
  intro _ hw'
  obtain ⟨⟨dq, osq⟩, hw''⟩ := hw'
  subst hw''
  go_wp2
  go_ret
  exact ⟨rfl, below_next (below_next (below_alloc (below_alloc (below_alloc (below_next hbc hb2) _) _) _) hb3) (below_regrown _ _ _)⟩
def L1 : ByteArray := ⟨#[0, 0, 0, 2, 0, 0, 0, 0, 0, 0, 0, 0]⟩
theorem eqL1 : (⟨#[0, 0]⟩ : ByteArray) ++ strOfNums [IntKind.u8.wrap 0, IntKind.u8.wrap (Go.bits .and .i64 2 255)] ++ zeros 8 = L1 := by decide +kernel
theorem gotL1 (w : World) : Calls Try.prog 26 #[.string L1] w fun e w' => e = .returned (.tuple #[.agg #[.int .i64 0, .bool false, .int .i64 0, .bool false, .bool false, .bool false, .bool false, .int .i64 0, .int .i64 2], .agg #[.int .i64 0, .int .i64 0, .int .i64 0, .int .i64 0], .int .i64 0]) ∧ Below w.heap.size w w' := by
  have := got L1 w (by decide)
  rw [show gotE L1 = 0 by decide +kernel, show gotH L1 = ⟨0, false, 0, false, false, false, false, 0, 2⟩ by decide +kernel, show gotC L1 4 = 0 by decide +kernel, show gotC L1 6 = 0 by decide +kernel, show gotC L1 8 = 0 by decide +kernel, show gotC L1 10 = 0 by decide +kernel] at this
  exact this
theorem putL1 (w : World) : Calls Try.prog 24 #[.agg #[.int .i64 0, .bool false, .int .i64 0, .bool false, .bool false, .bool false, .bool false, .int .i64 0, .int .i64 2], .agg #[.int .i64 0, .int .i64 0, .int .i64 0, .int .i64 0]] w fun e w' => e = .returned (.tuple #[.string L1, .int .i64 0]) ∧ Below w.heap.size w w' := by
  have := wrote ⟨0, false, 0, false, false, false, false, 0, 2⟩ 0 0 0 0 w
  rw [show wroteE ⟨0, false, 0, false, false, false, false, 0, 2⟩ 0 0 0 0 = 0 by decide +kernel, show wroteS ⟨0, false, 0, false, false, false, false, 0, 2⟩ 0 0 0 0 = L1 by decide +kernel] at this
  exact this
theorem selfL1 : (L1.toList == L1.toList) = true := beq_self_eq_true _
theorem eqq1 (w : World) : (Op.equalIn 10000 36 (.agg #[.int .i64 0, .bool false, .int .i64 0, .bool false, .bool false, .bool false, .bool false, .int .i64 0, .int .i64 2]) (.agg #[.int .i64 0, .bool false, .int .i64 0, .bool false, .bool false, .bool false, .bool false, .int .i64 0, .int .i64 2])).run Try.prog w = .ok true w := by
  have := eqHead ⟨0, false, 0, false, false, false, false, 0, 2⟩ ⟨0, false, 0, false, false, false, false, 0, 2⟩ w
  rw [eqB_self] at this
  exact this
set_option maxHeartbeats 8000000 in
set_option maxRecDepth 100000 in
theorem bits_1 (u : Int) (w : World) (hk : Go.bits .and .i64 u 15 = 1) :
    Calls Try.prog 9 #[.int .i64 u] w fun e w' => e = .returned (.bool true) ∧ Below w.heap.size w w' := by
  go_enter Try.func9, Try.ntmps9
  go_wp2_with fail
  refine (awake6 _).mono ?_
  rintro e w1 ⟨rfl, hb1⟩
  go_upto_region 5 with (fail)
  go_cut [5] (fun v5 wc => v5 = .string L1 ∧ Below w.heap.size w wc)
  case first =>
    have hmk : ∀ w, (Instr.makeSlice 49 (.int .i64 8) (.int .i64 8)).run Try.prog w = .ok (.slice (some ⟨w.heap.size, 0, none⟩) 8 8) (w.alloc (.cells #[.int .u8 0, .int .u8 0, .int .u8 0, .int .u8 0, .int .u8 0, .int .u8 0, .int .u8 0, .int .u8 0] 5)) := fun _ => by kernel_rfl
    have hc2 := conv2 (IntKind.u8.wrap 0) (IntKind.u8.wrap (Go.bits .and .i64 2 255))
    have hc8 := conv8
    have z2 := strs_size (IntKind.u8.wrap 0) (IntKind.u8.wrap (Go.bits .and .i64 2 255))
    have z8 := zeros_size 8
    go_region_with (fail)
    all_goals
      go_wp2
      go_meet
      case rel => exact ⟨congrArg Value.string eqL1, below_drew (below_alloc (below_alloc hb1 _) _)⟩
  case rest =>
  obtain ⟨rfl, hbc⟩ := hcut
  have q1 := eqq1
  have q2 := eqArr 0 0 0 0
  have q3 := selfL1
  go_wp2_with fail
  refine (gotL1 _).mono ?_
  rintro e w2 ⟨rfl, hb2⟩
  go_wp2_with fail
  refine (putL1 _).mono ?_
  rintro e w3 ⟨rfl, hb3⟩
  have x0 : w3.cell? ⟨w2.heap.size, 0, none⟩ = some (.int .i64 0) := bcell hb3 (by go_simp)
  have x1 : w3.cell? ⟨w2.heap.size, 1, none⟩ = some (.bool false) := bcell hb3 (by go_simp)
  have x2 : w3.cell? ⟨w2.heap.size, 2, none⟩ = some (.int .i64 0) := bcell hb3 (by go_simp)
  have x3 : w3.cell? ⟨w2.heap.size, 3, none⟩ = some (.bool false) := bcell hb3 (by go_simp)
  have x4 : w3.cell? ⟨w2.heap.size, 4, none⟩ = some (.bool false) := bcell hb3 (by go_simp)
  have x5 : w3.cell? ⟨w2.heap.size, 5, none⟩ = some (.bool false) := bcell hb3 (by go_simp)
  have x6 : w3.cell? ⟨w2.heap.size, 6, none⟩ = some (.bool false) := bcell hb3 (by go_simp)
  have x7 : w3.cell? ⟨w2.heap.size, 7, none⟩ = some (.int .i64 0) := bcell hb3 (by go_simp)
  have x8 : w3.cell? ⟨w2.heap.size, 8, none⟩ = some (.int .i64 2) := bcell hb3 (by go_simp)
  have y0 : w3.cell? ⟨w2.heap.size + 1, 0, none⟩ = some (.int .i64 0) := bcell hb3 (by go_simp)
  have y1 : w3.cell? ⟨w2.heap.size + 1, 1, none⟩ = some (.int .i64 0) := bcell hb3 (by go_simp)
  have y2 : w3.cell? ⟨w2.heap.size + 1, 2, none⟩ = some (.int .i64 0) := bcell hb3 (by go_simp)
  have y3 : w3.cell? ⟨w2.heap.size + 1, 3, none⟩ = some (.int .i64 0) := bcell hb3 (by go_simp)
  have v0 : w3.cell? ⟨w2.heap.size + 1 + 1, 9, none⟩ = some (.int .i64 0) := bcell hb3 (by go_simp)
  have v1 : w3.cell? ⟨w2.heap.size + 1 + 1, 10, none⟩ = some (.bool false) := bcell hb3 (by go_simp)
  have v2 : w3.cell? ⟨w2.heap.size + 1 + 1, 11, none⟩ = some (.int .i64 0) := bcell hb3 (by go_simp)
  have v3 : w3.cell? ⟨w2.heap.size + 1 + 1, 12, none⟩ = some (.bool false) := bcell hb3 (by go_simp)
  have v4 : w3.cell? ⟨w2.heap.size + 1 + 1, 13, none⟩ = some (.bool false) := bcell hb3 (by go_simp)
  have v5 : w3.cell? ⟨w2.heap.size + 1 + 1, 14, none⟩ = some (.bool false) := bcell hb3 (by go_simp)
  have v6 : w3.cell? ⟨w2.heap.size + 1 + 1, 15, none⟩ = some (.bool false) := bcell hb3 (by go_simp)
  have v7 : w3.cell? ⟨w2.heap.size + 1 + 1, 16, none⟩ = some (.int .i64 0) := bcell hb3 (by go_simp)
  have v8 : w3.cell? ⟨w2.heap.size + 1 + 1, 17, none⟩ = some (.int .i64 2) := bcell hb3 (by go_simp)
  go_wp2_with fail
  have rx0 := cell_regrown x0
  have rx1 := cell_regrown x1
  have rx2 := cell_regrown x2
  have rx3 := cell_regrown x3
  have rx4 := cell_regrown x4
  have rx5 := cell_regrown x5
  have rx6 := cell_regrown x6
  have rx7 := cell_regrown x7
  have rx8 := cell_regrown x8
  have ry0 := cell_regrown y0
  have ry1 := cell_regrown y1
  have ry2 := cell_regrown y2
  have ry3 := cell_regrown y3
  have rv0 := cell_regrown v0
  have rv1 := cell_regrown v1
  have rv2 := cell_regrown v2
  have rv3 := cell_regrown v3
  have rv4 := cell_regrown v4
  have rv5 := cell_regrown v5
  have rv6 := cell_regrown v6
  have rv7 := cell_regrown v7
  have rv8 := cell_regrown v8
  refine wp_region_quiet_below (by kernel_rfl) (by kernel_rfl) ?_
  repeat (go_big_quiet_step (exact Calls.regrown_of (same_below (numc _ _))))
  refine wpQuiet_nil ?_
  intro _ hw'
  obtain ⟨⟨dq, osq⟩, hw''⟩ := hw'
  subst hw''
  go_wp2
  go_ret
  exact ⟨rfl, below_next (below_next (below_alloc (below_alloc (below_alloc (below_next hbc hb2) _) _) _) hb3) (below_regrown _ _ _)⟩
def L2 : ByteArray := ⟨#[0, 0, 0, 4, 0, 0, 0, 0, 0, 0, 0, 0]⟩
theorem eqL2 : (⟨#[0, 0]⟩ : ByteArray) ++ strOfNums [IntKind.u8.wrap 0, IntKind.u8.wrap (Go.bits .and .i64 4 255)] ++ zeros 8 = L2 := by decide +kernel
theorem gotL2 (w : World) : Calls Try.prog 26 #[.string L2] w fun e w' => e = .returned (.tuple #[.agg #[.int .i64 0, .bool false, .int .i64 0, .bool false, .bool false, .bool false, .bool false, .int .i64 0, .int .i64 4], .agg #[.int .i64 0, .int .i64 0, .int .i64 0, .int .i64 0], .int .i64 0]) ∧ Below w.heap.size w w' := by
  have := got L2 w (by decide)
  rw [show gotE L2 = 0 by decide +kernel, show gotH L2 = ⟨0, false, 0, false, false, false, false, 0, 4⟩ by decide +kernel, show gotC L2 4 = 0 by decide +kernel, show gotC L2 6 = 0 by decide +kernel, show gotC L2 8 = 0 by decide +kernel, show gotC L2 10 = 0 by decide +kernel] at this
  exact this
theorem putL2 (w : World) : Calls Try.prog 24 #[.agg #[.int .i64 0, .bool false, .int .i64 0, .bool false, .bool false, .bool false, .bool false, .int .i64 0, .int .i64 4], .agg #[.int .i64 0, .int .i64 0, .int .i64 0, .int .i64 0]] w fun e w' => e = .returned (.tuple #[.string L2, .int .i64 0]) ∧ Below w.heap.size w w' := by
  have := wrote ⟨0, false, 0, false, false, false, false, 0, 4⟩ 0 0 0 0 w
  rw [show wroteE ⟨0, false, 0, false, false, false, false, 0, 4⟩ 0 0 0 0 = 0 by decide +kernel, show wroteS ⟨0, false, 0, false, false, false, false, 0, 4⟩ 0 0 0 0 = L2 by decide +kernel] at this
  exact this
theorem selfL2 : (L2.toList == L2.toList) = true := beq_self_eq_true _
theorem eqq2 (w : World) : (Op.equalIn 10000 36 (.agg #[.int .i64 0, .bool false, .int .i64 0, .bool false, .bool false, .bool false, .bool false, .int .i64 0, .int .i64 4]) (.agg #[.int .i64 0, .bool false, .int .i64 0, .bool false, .bool false, .bool false, .bool false, .int .i64 0, .int .i64 4])).run Try.prog w = .ok true w := by
  have := eqHead ⟨0, false, 0, false, false, false, false, 0, 4⟩ ⟨0, false, 0, false, false, false, false, 0, 4⟩ w
  rw [eqB_self] at this
  exact this
set_option maxHeartbeats 8000000 in
set_option maxRecDepth 100000 in
theorem bits_2 (u : Int) (w : World) (hk : Go.bits .and .i64 u 15 = 2) :
    Calls Try.prog 9 #[.int .i64 u] w fun e w' => e = .returned (.bool true) ∧ Below w.heap.size w w' := by
  go_enter Try.func9, Try.ntmps9
  go_wp2_with fail
  refine (awake6 _).mono ?_
  rintro e w1 ⟨rfl, hb1⟩
  go_upto_region 5 with (fail)
  go_cut [5] (fun v5 wc => v5 = .string L2 ∧ Below w.heap.size w wc)
  case first =>
    have hmk : ∀ w, (Instr.makeSlice 49 (.int .i64 8) (.int .i64 8)).run Try.prog w = .ok (.slice (some ⟨w.heap.size, 0, none⟩) 8 8) (w.alloc (.cells #[.int .u8 0, .int .u8 0, .int .u8 0, .int .u8 0, .int .u8 0, .int .u8 0, .int .u8 0, .int .u8 0] 5)) := fun _ => by kernel_rfl
    have hc2 := conv2 (IntKind.u8.wrap 0) (IntKind.u8.wrap (Go.bits .and .i64 4 255))
    have hc8 := conv8
    have z2 := strs_size (IntKind.u8.wrap 0) (IntKind.u8.wrap (Go.bits .and .i64 4 255))
    have z8 := zeros_size 8
    go_region_with (fail)
    all_goals
      go_wp2
      go_meet
      case rel => exact ⟨congrArg Value.string eqL2, below_drew (below_alloc (below_alloc hb1 _) _)⟩
  case rest =>
  obtain ⟨rfl, hbc⟩ := hcut
  have q1 := eqq2
  have q2 := eqArr 0 0 0 0
  have q3 := selfL2
  go_wp2_with fail
  refine (gotL2 _).mono ?_
  rintro e w2 ⟨rfl, hb2⟩
  go_wp2_with fail
  refine (putL2 _).mono ?_
  rintro e w3 ⟨rfl, hb3⟩
  have x0 : w3.cell? ⟨w2.heap.size, 0, none⟩ = some (.int .i64 0) := bcell hb3 (by go_simp)
  have x1 : w3.cell? ⟨w2.heap.size, 1, none⟩ = some (.bool false) := bcell hb3 (by go_simp)
  have x2 : w3.cell? ⟨w2.heap.size, 2, none⟩ = some (.int .i64 0) := bcell hb3 (by go_simp)
  have x3 : w3.cell? ⟨w2.heap.size, 3, none⟩ = some (.bool false) := bcell hb3 (by go_simp)
  have x4 : w3.cell? ⟨w2.heap.size, 4, none⟩ = some (.bool false) := bcell hb3 (by go_simp)
  have x5 : w3.cell? ⟨w2.heap.size, 5, none⟩ = some (.bool false) := bcell hb3 (by go_simp)
  have x6 : w3.cell? ⟨w2.heap.size, 6, none⟩ = some (.bool false) := bcell hb3 (by go_simp)
  have x7 : w3.cell? ⟨w2.heap.size, 7, none⟩ = some (.int .i64 0) := bcell hb3 (by go_simp)
  have x8 : w3.cell? ⟨w2.heap.size, 8, none⟩ = some (.int .i64 4) := bcell hb3 (by go_simp)
  have y0 : w3.cell? ⟨w2.heap.size + 1, 0, none⟩ = some (.int .i64 0) := bcell hb3 (by go_simp)
  have y1 : w3.cell? ⟨w2.heap.size + 1, 1, none⟩ = some (.int .i64 0) := bcell hb3 (by go_simp)
  have y2 : w3.cell? ⟨w2.heap.size + 1, 2, none⟩ = some (.int .i64 0) := bcell hb3 (by go_simp)
  have y3 : w3.cell? ⟨w2.heap.size + 1, 3, none⟩ = some (.int .i64 0) := bcell hb3 (by go_simp)
  have v0 : w3.cell? ⟨w2.heap.size + 1 + 1, 18, none⟩ = some (.int .i64 0) := bcell hb3 (by go_simp)
  have v1 : w3.cell? ⟨w2.heap.size + 1 + 1, 19, none⟩ = some (.bool false) := bcell hb3 (by go_simp)
  have v2 : w3.cell? ⟨w2.heap.size + 1 + 1, 20, none⟩ = some (.int .i64 0) := bcell hb3 (by go_simp)
  have v3 : w3.cell? ⟨w2.heap.size + 1 + 1, 21, none⟩ = some (.bool false) := bcell hb3 (by go_simp)
  have v4 : w3.cell? ⟨w2.heap.size + 1 + 1, 22, none⟩ = some (.bool false) := bcell hb3 (by go_simp)
  have v5 : w3.cell? ⟨w2.heap.size + 1 + 1, 23, none⟩ = some (.bool false) := bcell hb3 (by go_simp)
  have v6 : w3.cell? ⟨w2.heap.size + 1 + 1, 24, none⟩ = some (.bool false) := bcell hb3 (by go_simp)
  have v7 : w3.cell? ⟨w2.heap.size + 1 + 1, 25, none⟩ = some (.int .i64 0) := bcell hb3 (by go_simp)
  have v8 : w3.cell? ⟨w2.heap.size + 1 + 1, 26, none⟩ = some (.int .i64 4) := bcell hb3 (by go_simp)
  go_wp2_with fail
  have rx0 := cell_regrown x0
  have rx1 := cell_regrown x1
  have rx2 := cell_regrown x2
  have rx3 := cell_regrown x3
  have rx4 := cell_regrown x4
  have rx5 := cell_regrown x5
  have rx6 := cell_regrown x6
  have rx7 := cell_regrown x7
  have rx8 := cell_regrown x8
  have ry0 := cell_regrown y0
  have ry1 := cell_regrown y1
  have ry2 := cell_regrown y2
  have ry3 := cell_regrown y3
  have rv0 := cell_regrown v0
  have rv1 := cell_regrown v1
  have rv2 := cell_regrown v2
  have rv3 := cell_regrown v3
  have rv4 := cell_regrown v4
  have rv5 := cell_regrown v5
  have rv6 := cell_regrown v6
  have rv7 := cell_regrown v7
  have rv8 := cell_regrown v8
  refine wp_region_quiet_below (by kernel_rfl) (by kernel_rfl) ?_
  repeat (go_big_quiet_step (exact Calls.regrown_of (same_below (numc _ _))))
  refine wpQuiet_nil ?_
  intro _ hw'
  obtain ⟨⟨dq, osq⟩, hw''⟩ := hw'
  subst hw''
  go_wp2
  go_ret
  exact ⟨rfl, below_next (below_next (below_alloc (below_alloc (below_alloc (below_next hbc hb2) _) _) _) hb3) (below_regrown _ _ _)⟩
def L3 : ByteArray := ⟨#[0, 0, 0, 8, 0, 0, 0, 0, 0, 0, 0, 0]⟩
theorem eqL3 : (⟨#[0, 0]⟩ : ByteArray) ++ strOfNums [IntKind.u8.wrap 0, IntKind.u8.wrap (Go.bits .and .i64 8 255)] ++ zeros 8 = L3 := by decide +kernel
theorem gotL3 (w : World) : Calls Try.prog 26 #[.string L3] w fun e w' => e = .returned (.tuple #[.agg #[.int .i64 0, .bool false, .int .i64 0, .bool false, .bool false, .bool false, .bool false, .int .i64 0, .int .i64 8], .agg #[.int .i64 0, .int .i64 0, .int .i64 0, .int .i64 0], .int .i64 0]) ∧ Below w.heap.size w w' := by
  have := got L3 w (by decide)
  rw [show gotE L3 = 0 by decide +kernel, show gotH L3 = ⟨0, false, 0, false, false, false, false, 0, 8⟩ by decide +kernel, show gotC L3 4 = 0 by decide +kernel, show gotC L3 6 = 0 by decide +kernel, show gotC L3 8 = 0 by decide +kernel, show gotC L3 10 = 0 by decide +kernel] at this
  exact this
theorem putL3 (w : World) : Calls Try.prog 24 #[.agg #[.int .i64 0, .bool false, .int .i64 0, .bool false, .bool false, .bool false, .bool false, .int .i64 0, .int .i64 8], .agg #[.int .i64 0, .int .i64 0, .int .i64 0, .int .i64 0]] w fun e w' => e = .returned (.tuple #[.string L3, .int .i64 0]) ∧ Below w.heap.size w w' := by
  have := wrote ⟨0, false, 0, false, false, false, false, 0, 8⟩ 0 0 0 0 w
  rw [show wroteE ⟨0, false, 0, false, false, false, false, 0, 8⟩ 0 0 0 0 = 0 by decide +kernel, show wroteS ⟨0, false, 0, false, false, false, false, 0, 8⟩ 0 0 0 0 = L3 by decide +kernel] at this
  exact this
theorem selfL3 : (L3.toList == L3.toList) = true := beq_self_eq_true _
theorem eqq3 (w : World) : (Op.equalIn 10000 36 (.agg #[.int .i64 0, .bool false, .int .i64 0, .bool false, .bool false, .bool false, .bool false, .int .i64 0, .int .i64 8]) (.agg #[.int .i64 0, .bool false, .int .i64 0, .bool false, .bool false, .bool false, .bool false, .int .i64 0, .int .i64 8])).run Try.prog w = .ok true w := by
  have := eqHead ⟨0, false, 0, false, false, false, false, 0, 8⟩ ⟨0, false, 0, false, false, false, false, 0, 8⟩ w
  rw [eqB_self] at this
  exact this
set_option maxHeartbeats 8000000 in
set_option maxRecDepth 100000 in
theorem bits_3 (u : Int) (w : World) (hk : Go.bits .and .i64 u 15 = 3) :
    Calls Try.prog 9 #[.int .i64 u] w fun e w' => e = .returned (.bool true) ∧ Below w.heap.size w w' := by
  go_enter Try.func9, Try.ntmps9
  go_wp2_with fail
  refine (awake6 _).mono ?_
  rintro e w1 ⟨rfl, hb1⟩
  go_upto_region 5 with (fail)
  go_cut [5] (fun v5 wc => v5 = .string L3 ∧ Below w.heap.size w wc)
  case first =>
    have hmk : ∀ w, (Instr.makeSlice 49 (.int .i64 8) (.int .i64 8)).run Try.prog w = .ok (.slice (some ⟨w.heap.size, 0, none⟩) 8 8) (w.alloc (.cells #[.int .u8 0, .int .u8 0, .int .u8 0, .int .u8 0, .int .u8 0, .int .u8 0, .int .u8 0, .int .u8 0] 5)) := fun _ => by kernel_rfl
    have hc2 := conv2 (IntKind.u8.wrap 0) (IntKind.u8.wrap (Go.bits .and .i64 8 255))
    have hc8 := conv8
    have z2 := strs_size (IntKind.u8.wrap 0) (IntKind.u8.wrap (Go.bits .and .i64 8 255))
    have z8 := zeros_size 8
    go_region_with (fail)
    all_goals
      go_wp2
      go_meet
      case rel => exact ⟨congrArg Value.string eqL3, below_drew (below_alloc (below_alloc hb1 _) _)⟩
  case rest =>
  obtain ⟨rfl, hbc⟩ := hcut
  have q1 := eqq3
  have q2 := eqArr 0 0 0 0
  have q3 := selfL3
  go_wp2_with fail
  refine (gotL3 _).mono ?_
  rintro e w2 ⟨rfl, hb2⟩
  go_wp2_with fail
  refine (putL3 _).mono ?_
  rintro e w3 ⟨rfl, hb3⟩
  have x0 : w3.cell? ⟨w2.heap.size, 0, none⟩ = some (.int .i64 0) := bcell hb3 (by go_simp)
  have x1 : w3.cell? ⟨w2.heap.size, 1, none⟩ = some (.bool false) := bcell hb3 (by go_simp)
  have x2 : w3.cell? ⟨w2.heap.size, 2, none⟩ = some (.int .i64 0) := bcell hb3 (by go_simp)
  have x3 : w3.cell? ⟨w2.heap.size, 3, none⟩ = some (.bool false) := bcell hb3 (by go_simp)
  have x4 : w3.cell? ⟨w2.heap.size, 4, none⟩ = some (.bool false) := bcell hb3 (by go_simp)
  have x5 : w3.cell? ⟨w2.heap.size, 5, none⟩ = some (.bool false) := bcell hb3 (by go_simp)
  have x6 : w3.cell? ⟨w2.heap.size, 6, none⟩ = some (.bool false) := bcell hb3 (by go_simp)
  have x7 : w3.cell? ⟨w2.heap.size, 7, none⟩ = some (.int .i64 0) := bcell hb3 (by go_simp)
  have x8 : w3.cell? ⟨w2.heap.size, 8, none⟩ = some (.int .i64 8) := bcell hb3 (by go_simp)
  have y0 : w3.cell? ⟨w2.heap.size + 1, 0, none⟩ = some (.int .i64 0) := bcell hb3 (by go_simp)
  have y1 : w3.cell? ⟨w2.heap.size + 1, 1, none⟩ = some (.int .i64 0) := bcell hb3 (by go_simp)
  have y2 : w3.cell? ⟨w2.heap.size + 1, 2, none⟩ = some (.int .i64 0) := bcell hb3 (by go_simp)
  have y3 : w3.cell? ⟨w2.heap.size + 1, 3, none⟩ = some (.int .i64 0) := bcell hb3 (by go_simp)
  have v0 : w3.cell? ⟨w2.heap.size + 1 + 1, 27, none⟩ = some (.int .i64 0) := bcell hb3 (by go_simp)
  have v1 : w3.cell? ⟨w2.heap.size + 1 + 1, 28, none⟩ = some (.bool false) := bcell hb3 (by go_simp)
  have v2 : w3.cell? ⟨w2.heap.size + 1 + 1, 29, none⟩ = some (.int .i64 0) := bcell hb3 (by go_simp)
  have v3 : w3.cell? ⟨w2.heap.size + 1 + 1, 30, none⟩ = some (.bool false) := bcell hb3 (by go_simp)
  have v4 : w3.cell? ⟨w2.heap.size + 1 + 1, 31, none⟩ = some (.bool false) := bcell hb3 (by go_simp)
  have v5 : w3.cell? ⟨w2.heap.size + 1 + 1, 32, none⟩ = some (.bool false) := bcell hb3 (by go_simp)
  have v6 : w3.cell? ⟨w2.heap.size + 1 + 1, 33, none⟩ = some (.bool false) := bcell hb3 (by go_simp)
  have v7 : w3.cell? ⟨w2.heap.size + 1 + 1, 34, none⟩ = some (.int .i64 0) := bcell hb3 (by go_simp)
  have v8 : w3.cell? ⟨w2.heap.size + 1 + 1, 35, none⟩ = some (.int .i64 8) := bcell hb3 (by go_simp)
  go_wp2_with fail
  have rx0 := cell_regrown x0
  have rx1 := cell_regrown x1
  have rx2 := cell_regrown x2
  have rx3 := cell_regrown x3
  have rx4 := cell_regrown x4
  have rx5 := cell_regrown x5
  have rx6 := cell_regrown x6
  have rx7 := cell_regrown x7
  have rx8 := cell_regrown x8
  have ry0 := cell_regrown y0
  have ry1 := cell_regrown y1
  have ry2 := cell_regrown y2
  have ry3 := cell_regrown y3
  have rv0 := cell_regrown v0
  have rv1 := cell_regrown v1
  have rv2 := cell_regrown v2
  have rv3 := cell_regrown v3
  have rv4 := cell_regrown v4
  have rv5 := cell_regrown v5
  have rv6 := cell_regrown v6
  have rv7 := cell_regrown v7
  have rv8 := cell_regrown v8
  refine wp_region_quiet_below (by kernel_rfl) (by kernel_rfl) ?_
  repeat (go_big_quiet_step (exact Calls.regrown_of (same_below (numc _ _))))
  refine wpQuiet_nil ?_
  intro _ hw'
  obtain ⟨⟨dq, osq⟩, hw''⟩ := hw'
  subst hw''
  go_wp2
  go_ret
  exact ⟨rfl, below_next (below_next (below_alloc (below_alloc (below_alloc (below_next hbc hb2) _) _) _) hb3) (below_regrown _ _ _)⟩
end Go.Proofs.Ytccnckppkkhoeaa.Hd
