/- wimplelaw6.HeadBits answers true, for all whole numbers. -/
import Derived.Test.YtccnckppkkhoeaaHeadBitsW
import Derived.Lib.Hide
import Derived.Deep.DeepCutAuto
import Derived.Deep.CutBlock
import Derived.BigRegion
import Derived.RegionTactic
import Derived.Deep.RegionWith
import Derived.Lib.QuietBelow
import Derived.BigQuiet
namespace Go.Proofs.Ytccnckppkkhoeaa.Hd
open Go.RowKit Go.PlainAid Go.Proofs.Ytccnckppkkhoeaa.Base Go.Proofs.Ytccnckppkkhoeaa.Oct
set_option linter.unusedVariables false

def L8 : ByteArray := ⟨#[0, 0, 1, 0, 0, 0, 0, 0, 0, 0, 0, 0]⟩
theorem eqL8 : (⟨#[0, 0]⟩ : ByteArray) ++ strOfNums [IntKind.u8.wrap 1, IntKind.u8.wrap (Go.bits .and .i64 256 255)] ++ zeros 8 = L8 := by decide +kernel
theorem gotL8 (w : World) : Calls Try.prog 26 #[.string L8] w fun e w' => e = .returned (.tuple #[.agg #[.int .i64 0, .bool false, .int .i64 0, .bool false, .bool false, .bool true, .bool false, .int .i64 0, .int .i64 0], .agg #[.int .i64 0, .int .i64 0, .int .i64 0, .int .i64 0], .int .i64 0]) ∧ Below w.heap.size w w' := by
  have := got L8 w (by decide)
  rw [show gotE L8 = 0 by decide +kernel, show gotH L8 = ⟨0, false, 0, false, false, true, false, 0, 0⟩ by decide +kernel, show gotC L8 4 = 0 by decide +kernel, show gotC L8 6 = 0 by decide +kernel, show gotC L8 8 = 0 by decide +kernel, show gotC L8 10 = 0 by decide +kernel] at this
  exact this
theorem putL8 (w : World) : Calls Try.prog 24 #[.agg #[.int .i64 0, .bool false, .int .i64 0, .bool false, .bool false, .bool true, .bool false, .int .i64 0, .int .i64 0], .agg #[.int .i64 0, .int .i64 0, .int .i64 0, .int .i64 0]] w fun e w' => e = .returned (.tuple #[.string L8, .int .i64 0]) ∧ Below w.heap.size w w' := by
  have := wrote ⟨0, false, 0, false, false, true, false, 0, 0⟩ 0 0 0 0 w
  rw [show wroteE ⟨0, false, 0, false, false, true, false, 0, 0⟩ 0 0 0 0 = 0 by decide +kernel, show wroteS ⟨0, false, 0, false, false, true, false, 0, 0⟩ 0 0 0 0 = L8 by decide +kernel] at this
  exact this
theorem selfL8 : (L8.toList == L8.toList) = true := beq_self_eq_true _
theorem eqq8 (w : World) : (Op.equalIn 10000 36 (.agg #[.int .i64 0, .bool false, .int .i64 0, .bool false, .bool false, .bool true, .bool false, .int .i64 0, .int .i64 0]) (.agg #[.int .i64 0, .bool false, .int .i64 0, .bool false, .bool false, .bool true, .bool false, .int .i64 0, .int .i64 0])).run Try.prog w = .ok true w := by
  have := eqHead ⟨0, false, 0, false, false, true, false, 0, 0⟩ ⟨0, false, 0, false, false, true, false, 0, 0⟩ w
  rw [eqB_self] at this
  exact this
set_option maxHeartbeats 8000000 in
set_option maxRecDepth 100000 in
theorem bits_8 (u : Int) (w : World) (hk : Go.bits .and .i64 u 15 = 8) :
    Calls Try.prog 9 #[.int .i64 u] w fun e w' => e = .returned (.bool true) ∧ Below w.heap.size w w' := by
  go_enter Try.func9, Try.ntmps9
  go_wp2_with fail
  refine (awake6 _).mono ?_
  rintro e w1 ⟨rfl, hb1⟩
  go_upto_region 5 with (fail)
  go_cut [5] (fun v5 wc => v5 = .string L8 ∧ Below w.heap.size w wc)
  case first =>
    have hmk : ∀ w, (Instr.makeSlice 49 (.int .i64 8) (.int .i64 8)).run Try.prog w = .ok (.slice (some ⟨w.heap.size, 0, none⟩) 8 8) (w.alloc (.cells #[.int .u8 0, .int .u8 0, .int .u8 0, .int .u8 0, .int .u8 0, .int .u8 0, .int .u8 0, .int .u8 0] 5)) := fun _ => by kernel_rfl
    have hc2 := conv2 (IntKind.u8.wrap 1) (IntKind.u8.wrap (Go.bits .and .i64 256 255))
    have hc8 := conv8
    have z2 := strs_size (IntKind.u8.wrap 1) (IntKind.u8.wrap (Go.bits .and .i64 256 255))
    have z8 := zeros_size 8
    go_region_with (fail)
    all_goals
      go_wp2
      go_meet
      case rel => exact ⟨congrArg Value.string eqL8, below_drew (below_alloc (below_alloc hb1 _) _)⟩
  case rest =>
  obtain ⟨rfl, hbc⟩ := hcut
  have q1 := eqq8
  have q2 := eqArr 0 0 0 0
  have q3 := selfL8
  go_wp2_with fail
  refine (gotL8 _).mono ?_
  rintro e w2 ⟨rfl, hb2⟩
  go_wp2_with fail
  refine (putL8 _).mono ?_
  rintro e w3 ⟨rfl, hb3⟩
  have x0 : w3.cell? ⟨w2.heap.size, 0, none⟩ = some (.int .i64 0) := bcell hb3 (by go_simp)
  have x1 : w3.cell? ⟨w2.heap.size, 1, none⟩ = some (.bool false) := bcell hb3 (by go_simp)
  have x2 : w3.cell? ⟨w2.heap.size, 2, none⟩ = some (.int .i64 0) := bcell hb3 (by go_simp)
  have x3 : w3.cell? ⟨w2.heap.size, 3, none⟩ = some (.bool false) := bcell hb3 (by go_simp)
  have x4 : w3.cell? ⟨w2.heap.size, 4, none⟩ = some (.bool false) := bcell hb3 (by go_simp)
  have x5 : w3.cell? ⟨w2.heap.size, 5, none⟩ = some (.bool true) := bcell hb3 (by go_simp)
  have x6 : w3.cell? ⟨w2.heap.size, 6, none⟩ = some (.bool false) := bcell hb3 (by go_simp)
  have x7 : w3.cell? ⟨w2.heap.size, 7, none⟩ = some (.int .i64 0) := bcell hb3 (by go_simp)
  have x8 : w3.cell? ⟨w2.heap.size, 8, none⟩ = some (.int .i64 0) := bcell hb3 (by go_simp)
  have y0 : w3.cell? ⟨w2.heap.size + 1, 0, none⟩ = some (.int .i64 0) := bcell hb3 (by go_simp)
  have y1 : w3.cell? ⟨w2.heap.size + 1, 1, none⟩ = some (.int .i64 0) := bcell hb3 (by go_simp)
  have y2 : w3.cell? ⟨w2.heap.size + 1, 2, none⟩ = some (.int .i64 0) := bcell hb3 (by go_simp)
  have y3 : w3.cell? ⟨w2.heap.size + 1, 3, none⟩ = some (.int .i64 0) := bcell hb3 (by go_simp)
  have v0 : w3.cell? ⟨w2.heap.size + 1 + 1, 72, none⟩ = some (.int .i64 0) := bcell hb3 (by go_simp)
  have v1 : w3.cell? ⟨w2.heap.size + 1 + 1, 73, none⟩ = some (.bool false) := bcell hb3 (by go_simp)
  have v2 : w3.cell? ⟨w2.heap.size + 1 + 1, 74, none⟩ = some (.int .i64 0) := bcell hb3 (by go_simp)
  have v3 : w3.cell? ⟨w2.heap.size + 1 + 1, 75, none⟩ = some (.bool false) := bcell hb3 (by go_simp)
  have v4 : w3.cell? ⟨w2.heap.size + 1 + 1, 76, none⟩ = some (.bool false) := bcell hb3 (by go_simp)
  have v5 : w3.cell? ⟨w2.heap.size + 1 + 1, 77, none⟩ = some (.bool true) := bcell hb3 (by go_simp)
  have v6 : w3.cell? ⟨w2.heap.size + 1 + 1, 78, none⟩ = some (.bool false) := bcell hb3 (by go_simp)
  have v7 : w3.cell? ⟨w2.heap.size + 1 + 1, 79, none⟩ = some (.int .i64 0) := bcell hb3 (by go_simp)
  have v8 : w3.cell? ⟨w2.heap.size + 1 + 1, 80, none⟩ = some (.int .i64 0) := bcell hb3 (by go_simp)
  go_wp2_with fail
  have rx0 := cell_regrown x0
  have rx1 := cell_regrown x1
  have rx2 := cell_regrown x2
  have rx3 := cell_regrown x3
  have rx4 := cell_regrown x4
  have rx5 := cell_regrown x5
  have rx6 := cell_regrown x6
  have rx7 := cell_regrown x7
  have rx8 := cell_regrown x8
  have ry0 := cell_regrown y0
  have ry1 := cell_regrown y1
  have ry2 := cell_regrown y2
  have ry3 := cell_regrown y3
  have rv0 := cell_regrown v0
  have rv1 := cell_regrown v1
  have rv2 := cell_regrown v2
  have rv3 := cell_regrown v3
  have rv4 := cell_regrown v4
  have rv5 := cell_regrown v5
  have rv6 := cell_regrown v6
  have rv7 := cell_regrown v7
  have rv8 := cell_regrown v8
  refine wp_region_quiet_below (by kernel_rfl) (by kernel_rfl) ?_
  repeat (go_big_quiet_step (exact Calls.regrown_of (same_below (numc _ _))))
  refine wpQuiet_nil ?_
  intro _ hw'
  obtain ⟨⟨dq, osq⟩, hw''⟩ := hw'
  subst hw''
  go_wp2
  go_ret
  exact ⟨rfl, below_next (below_next (below_alloc (below_alloc (below_alloc (below_next hbc hb2) _) _) _) hb3) (below_regrown _ _ _)⟩
def L9 : ByteArray := ⟨#[0, 0, 2, 0, 0, 0, 0, 0, 0, 0, 0, 0]⟩
theorem eqL9 : (⟨#[0, 0]⟩ : ByteArray) ++ strOfNums [IntKind.u8.wrap 2, IntKind.u8.wrap (Go.bits .and .i64 512 255)] ++ zeros 8 = L9 := by decide +kernel
theorem gotL9 (w : World) : Calls Try.prog 26 #[.string L9] w fun e w' => e = .returned (.tuple #[.agg #[.int .i64 0, .bool false, .int .i64 0, .bool false, .bool true, .bool false, .bool false, .int .i64 0, .int .i64 0], .agg #[.int .i64 0, .int .i64 0, .int .i64 0, .int .i64 0], .int .i64 0]) ∧ Below w.heap.size w w' := by
  have := got L9 w (by decide)
  rw [show gotE L9 = 0 by decide +kernel, show gotH L9 = ⟨0, false, 0, false, true, false, false, 0, 0⟩ by decide +kernel, show gotC L9 4 = 0 by decide +kernel, show gotC L9 6 = 0 by decide +kernel, show gotC L9 8 = 0 by decide +kernel, show gotC L9 10 = 0 by decide +kernel] at this
  exact this
theorem putL9 (w : World) : Calls Try.prog 24 #[.agg #[.int .i64 0, .bool false, .int .i64 0, .bool false, .bool true, .bool false, .bool false, .int .i64 0, .int .i64 0], .agg #[.int .i64 0, .int .i64 0, .int .i64 0, .int .i64 0]] w fun e w' => e = .returned (.tuple #[.string L9, .int .i64 0]) ∧ Below w.heap.size w w' := by
  have := wrote ⟨0, false, 0, false, true, false, false, 0, 0⟩ 0 0 0 0 w
  rw [show wroteE ⟨0, false, 0, false, true, false, false, 0, 0⟩ 0 0 0 0 = 0 by decide +kernel, show wroteS ⟨0, false, 0, false, true, false, false, 0, 0⟩ 0 0 0 0 = L9 by decide +kernel] at this
  exact this
theorem selfL9 : (L9.toList == L9.toList) = true := beq_self_eq_true _
theorem eqq9 (w : World) : (Op.equalIn 10000 36 (.agg #[.int .i64 0, .bool false, .int .i64 0, .bool false, .bool true, .bool false, .bool false, .int .i64 0, .int .i64 0]) (.agg #[.int .i64 0, .bool false, .int .i64 0, .bool false, .bool true, .bool false, .bool false, .int .i64 0, .int .i64 0])).run Try.prog w = .ok true w := by
  have := eqHead ⟨0, false, 0, false, true, false, false, 0, 0⟩ ⟨0, false, 0, false, true, false, false, 0, 0⟩ w
  rw [eqB_self] at this
  exact this
set_option maxHeartbeats 8000000 in
set_option maxRecDepth 100000 in
theorem bits_9 (u : Int) (w : World) (hk : Go.bits .and .i64 u 15 = 9) :
    Calls Try.prog 9 #[.int .i64 u] w fun e w' => e = .returned (.bool true) ∧ Below w.heap.size w w' := by
  go_enter Try.func9, Try.ntmps9
  go_wp2_with fail
  refine (awake6 _).mono ?_
  rintro e w1 ⟨rfl, hb1⟩
  go_upto_region 5 with (fail)
  go_cut [5] (fun v5 wc => v5 = .string L9 ∧ Below w.heap.size w wc)
  case first =>
    have hmk : ∀ w, (Instr.makeSlice 49 (.int .i64 8) (.int .i64 8)).run Try.prog w = .ok (.slice (some ⟨w.heap.size, 0, none⟩) 8 8) (w.alloc (.cells #[.int .u8 0, .int .u8 0, .int .u8 0, .int .u8 0, .int .u8 0, .int .u8 0, .int .u8 0, .int .u8 0] 5)) := fun _ => by kernel_rfl
    have hc2 := conv2 (IntKind.u8.wrap 2) (IntKind.u8.wrap (Go.bits .and .i64 512 255))
    have hc8 := conv8
    have z2 := strs_size (IntKind.u8.wrap 2) (IntKind.u8.wrap (Go.bits .and .i64 512 255))
    have z8 := zeros_size 8
    go_region_with (fail)
    all_goals
      go_wp2
      go_meet
      case rel => exact ⟨congrArg Value.string eqL9, below_drew (below_alloc (below_alloc hb1 _) _)⟩
  case rest =>
  obtain ⟨rfl, hbc⟩ := hcut
  have q1 := eqq9
  have q2 := eqArr 0 0 0 0
  have q3 := selfL9
  go_wp2_with fail
  refine (gotL9 _).mono ?_
  rintro e w2 ⟨rfl, hb2⟩
  go_wp2_with fail
  refine (putL9 _).mono ?_
  rintro e w3 ⟨rfl, hb3⟩
  have x0 : w3.cell? ⟨w2.heap.size, 0, none⟩ = some (.int .i64 0) := bcell hb3 (by go_simp)
  have x1 : w3.cell? ⟨w2.heap.size, 1, none⟩ = some (.bool false) := bcell hb3 (by go_simp)
  have x2 : w3.cell? ⟨w2.heap.size, 2, none⟩ = some (.int .i64 0) := bcell hb3 (by go_simp)
  have x3 : w3.cell? ⟨w2.heap.size, 3, none⟩ = some (.bool false) := bcell hb3 (by go_simp)
  have x4 : w3.cell? ⟨w2.heap.size, 4, none⟩ = some (.bool true) := bcell hb3 (by go_simp)
  have x5 : w3.cell? ⟨w2.heap.size, 5, none⟩ = some (.bool false) := bcell hb3 (by go_simp)
  have x6 : w3.cell? ⟨w2.heap.size, 6, none⟩ = some (.bool false) := bcell hb3 (by go_simp)
  have x7 : w3.cell? ⟨w2.heap.size, 7, none⟩ = some (.int .i64 0) := bcell hb3 (by go_simp)
  have x8 : w3.cell? ⟨w2.heap.size, 8, none⟩ = some (.int .i64 0) := bcell hb3 (by go_simp)
  have y0 : w3.cell? ⟨w2.heap.size + 1, 0, none⟩ = some (.int .i64 0) := bcell hb3 (by go_simp)
  have y1 : w3.cell? ⟨w2.heap.size + 1, 1, none⟩ = some (.int .i64 0) := bcell hb3 (by go_simp)
  have y2 : w3.cell? ⟨w2.heap.size + 1, 2, none⟩ = some (.int .i64 0) := bcell hb3 (by go_simp)
  have y3 : w3.cell? ⟨w2.heap.size + 1, 3, none⟩ = some (.int .i64 0) := bcell hb3 (by go_simp)
  have v0 : w3.cell? ⟨w2.heap.size + 1 + 1, 81, none⟩ = some (.int .i64 0) := bcell hb3 (by go_simp)
  have v1 : w3.cell? ⟨w2.heap.size + 1 + 1, 82, none⟩ = some (.bool false) := bcell hb3 (by go_simp)
  have v2 : w3.cell? ⟨w2.heap.size + 1 + 1, 83, none⟩ = some (.int .i64 0) := bcell hb3 (by go_simp)
  have v3 : w3.cell? ⟨w2.heap.size + 1 + 1, 84, none⟩ = some (.bool false) := bcell hb3 (by go_simp)
  have v4 : w3.cell? ⟨w2.heap.size + 1 + 1, 85, none⟩ = some (.bool true) := bcell hb3 (by go_simp)
  have v5 : w3.cell? ⟨w2.heap.size + 1 + 1, 86, none⟩ = some (.bool false) := bcell hb3 (by go_simp)
  have v6 : w3.cell? ⟨w2.heap.size + 1 + 1, 87, none⟩ = some (.bool false) := bcell hb3 (by go_simp)
  have v7 : w3.cell? ⟨w2.heap.size + 1 + 1, 88, none⟩ = some (.int .i64 0) := bcell hb3 (by go_simp)
  have v8 : w3.cell? ⟨w2.heap.size + 1 + 1, 89, none⟩ = some (.int .i64 0) := bcell hb3 (by go_simp)
  go_wp2_with fail
  have rx0 := cell_regrown x0
  have rx1 := cell_regrown x1
  have rx2 := cell_regrown x2
  have rx3 := cell_regrown x3
  have rx4 := cell_regrown x4
  have rx5 := cell_regrown x5
  have rx6 := cell_regrown x6
  have rx7 := cell_regrown x7
  have rx8 := cell_regrown x8
  have ry0 := cell_regrown y0
  have ry1 := cell_regrown y1
  have ry2 := cell_regrown y2
  have ry3 := cell_regrown y3
  have rv0 := cell_regrown v0
  have rv1 := cell_regrown v1
  have rv2 := cell_regrown v2
  have rv3 := cell_regrown v3
  have rv4 := cell_regrown v4
  have rv5 := cell_regrown v5
  have rv6 := cell_regrown v6
  have rv7 := cell_regrown v7
  have rv8 := cell_regrown v8
  refine wp_region_quiet_below (by kernel_rfl) (by kernel_rfl) ?_
  repeat (go_big_quiet_step (exact Calls.regrown_of (same_below (numc _ _))))
  refine wpQuiet_nil ?_
  intro _ hw'
  obtain ⟨⟨dq, osq⟩, hw''⟩ := hw'
  subst hw''
  go_wp2
  go_ret
  exact ⟨rfl, below_next (below_next (below_alloc (below_alloc (below_alloc (below_next hbc hb2) _) _) _) hb3) (below_regrown _ _ _)⟩
def L10 : ByteArray := ⟨#[0, 0, 4, 0, 0, 0, 0, 0, 0, 0, 0, 0]⟩
theorem eqL10 : (⟨#[0, 0]⟩ : ByteArray) ++ strOfNums [IntKind.u8.wrap 4, IntKind.u8.wrap (Go.bits .and .i64 1024 255)] ++ zeros 8 = L10 := by decide +kernel
theorem gotL10 (w : World) : Calls Try.prog 26 #[.string L10] w fun e w' => e = .returned (.tuple #[.agg #[.int .i64 0, .bool false, .int .i64 0, .bool true, .bool false, .bool false, .bool false, .int .i64 0, .int .i64 0], .agg #[.int .i64 0, .int .i64 0, .int .i64 0, .int .i64 0], .int .i64 0]) ∧ Below w.heap.size w w' := by
  have := got L10 w (by decide)
  rw [show gotE L10 = 0 by decide +kernel, show gotH L10 = ⟨0, false, 0, true, false, false, false, 0, 0⟩ by decide +kernel, show gotC L10 4 = 0 by decide +kernel, show gotC L10 6 = 0 by decide +kernel, show gotC L10 8 = 0 by decide +kernel, show gotC L10 10 = 0 by decide +kernel] at this
  exact this
theorem putL10 (w : World) : Calls Try.prog 24 #[.agg #[.int .i64 0, .bool false, .int .i64 0, .bool true, .bool false, .bool false, .bool false, .int .i64 0, .int .i64 0], .agg #[.int .i64 0, .int .i64 0, .int .i64 0, .int .i64 0]] w fun e w' => e = .returned (.tuple #[.string L10, .int .i64 0]) ∧ Below w.heap.size w w' := by
  have := wrote ⟨0, false, 0, true, false, false, false, 0, 0⟩ 0 0 0 0 w
  rw [show wroteE ⟨0, false, 0, true, false, false, false, 0, 0⟩ 0 0 0 0 = 0 by decide +kernel, show wroteS ⟨0, false, 0, true, false, false, false, 0, 0⟩ 0 0 0 0 = L10 by decide +kernel] at this
  exact this
theorem selfL10 : (L10.toList == L10.toList) = true := beq_self_eq_true _
theorem eqq10 (w : World) : (Op.equalIn 10000 36 (.agg #[.int .i64 0, .bool false, .int .i64 0, .bool true, .bool false, .bool false, .bool false, .int .i64 0, .int .i64 0]) (.agg #[.int .i64 0, .bool false, .int .i64 0, .bool true, .bool false, .bool false, .bool false, .int .i64 0, .int .i64 0])).run Try.prog w = .ok true w := by
  have := eqHead ⟨0, false, 0, true, false, false, false, 0, 0⟩ ⟨0, false, 0, true, false, false, false, 0, 0⟩ w
  rw [eqB_self] at this
  exact this
set_option maxHeartbeats 8000000 in
set_option maxRecDepth 100000 in
theorem bits_10 (u : Int) (w : World) (hk : Go.bits .and .i64 u 15 = 10) :
    Calls Try.prog 9 #[.int .i64 u] w fun e w' => e = .returned (.bool true) ∧ Below w.heap.size w w' := by
  go_enter Try.func9, Try.ntmps9
  go_wp2_with fail
  refine (awake6 _).mono ?_
  rintro e w1 ⟨rfl, hb1⟩
  go_upto_region 5 with (fail)
  go_cut [5] (fun v5 wc => v5 = .string L10 ∧ Below w.heap.size w wc)
  case first =>
    have hmk : ∀ w, (Instr.makeSlice 49 (.int .i64 8) (.int .i64 8)).run Try.prog w = .ok (.slice (some ⟨w.heap.size, 0, none⟩) 8 8) (w.alloc (.cells #[.int .u8 0, .int .u8 0, .int .u8 0, .int .u8 0, .int .u8 0, .int .u8 0, .int .u8 0, .int .u8 0] 5)) := fun _ => by kernel_rfl
    have hc2 := conv2 (IntKind.u8.wrap 4) (IntKind.u8.wrap (Go.bits .and .i64 1024 255))
    have hc8 := conv8
    have z2 := strs_size (IntKind.u8.wrap 4) (IntKind.u8.wrap (Go.bits .and .i64 1024 255))
    have z8 := zeros_size 8
    go_region_with (fail)
    all_goals
      go_wp2
      go_meet
      case rel => exact ⟨congrArg Value.string eqL10, below_drew (below_alloc (below_alloc hb1 _) _)⟩
  case rest =>
  obtain ⟨rfl, hbc⟩ := hcut
  have q1 := eqq10
  have q2 := eqArr 0 0 0 0
  have q3 := selfL10
  go_wp2_with fail
  refine (gotL10 _).mono ?_
  rintro e w2 ⟨rfl, hb2⟩
  go_wp2_with fail
  refine (putL10 _).mono ?_
  rintro e w3 ⟨rfl, hb3⟩
  have x0 : w3.cell? ⟨w2.heap.size, 0, none⟩ = some (.int .i64 0) := bcell hb3 (by go_simp)
  have x1 : w3.cell? ⟨w2.heap.size, 1, none⟩ = some (.bool false) := bcell hb3 (by go_simp)
  have x2 : w3.cell? ⟨w2.heap.size, 2, none⟩ = some (.int .i64 0) := bcell hb3 (by go_simp)
  have x3 : w3.cell? ⟨w2.heap.size, 3, none⟩ = some (.bool true) := bcell hb3 (by go_simp)
  have x4 : w3.cell? ⟨w2.heap.size, 4, none⟩ = some (.bool false) := bcell hb3 (by go_simp)
  have x5 : w3.cell? ⟨w2.heap.size, 5, none⟩ = some (.bool false) := bcell hb3 (by go_simp)
  have x6 : w3.cell? ⟨w2.heap.size, 6, none⟩ = some (.bool false) := bcell hb3 (by go_simp)
  have x7 : w3.cell? ⟨w2.heap.size, 7, none⟩ = some (.int .i64 0) := bcell hb3 (by go_simp)
  have x8 : w3.cell? ⟨w2.heap.size, 8, none⟩ = some (.int .i64 0) := bcell hb3 (by go_simp)
  have y0 : w3.cell? ⟨w2.heap.size + 1, 0, none⟩ = some (.int .i64 0) := bcell hb3 (by go_simp)
  have y1 : w3.cell? ⟨w2.heap.size + 1, 1, none⟩ = some (.int .i64 0) := bcell hb3 (by go_simp)
  have y2 : w3.cell? ⟨w2.heap.size + 1, 2, none⟩ = some (.int .i64 0) := bcell hb3 (by go_simp)
  have y3 : w3.cell? ⟨w2.heap.size + 1, 3, none⟩ = some (.int .i64 0) := bcell hb3 (by go_simp)
  have v0 : w3.cell? ⟨w2.heap.size + 1 + 1, 90, none⟩ = some (.int .i64 0) := bcell hb3 (by go_simp)
  have v1 : w3.cell? ⟨w2.heap.size + 1 + 1, 91, none⟩ = some (.bool false) := bcell hb3 (by go_simp)
  have v2 : w3.cell? ⟨w2.heap.size + 1 + 1, 92, none⟩ = some (.int .i64 0) := bcell hb3 (by go_simp)
  have v3 : w3.cell? ⟨w2.heap.size + 1 + 1, 93, none⟩ = some (.bool true) := bcell hb3 (by go_simp)
  have v4 : w3.cell? ⟨w2.heap.size + 1 + 1, 94, none⟩ = some (.bool false) := bcell hb3 (by go_simp)
  have v5 : w3.cell? ⟨w2.heap.size + 1 + 1, 95, none⟩ = some (.bool false) := bcell hb3 (by go_simp)
  have v6 : w3.cell? ⟨w2.heap.size + 1 + 1, 96, none⟩ = some (.bool false) := bcell hb3 (by go_simp)
  have v7 : w3.cell? ⟨w2.heap.size + 1 + 1, 97, none⟩ = some (.int .i64 0) := bcell hb3 (by go_simp)
  have v8 : w3.cell? ⟨w2.heap.size + 1 + 1, 98, none⟩ = some (.int .i64 0) := bcell hb3 (by go_simp)
  go_wp2_with fail
  have rx0 := cell_regrown x0
  have rx1 := cell_regrown x1
  have rx2 := cell_regrown x2
  have rx3 := cell_regrown x3
  have rx4 := cell_regrown x4
  have rx5 := cell_regrown x5
  have rx6 := cell_regrown x6
  have rx7 := cell_regrown x7
  have rx8 := cell_regrown x8
  have ry0 := cell_regrown y0
  have ry1 := cell_regrown y1
  have ry2 := cell_regrown y2
  have ry3 := cell_regrown y3
  have rv0 := cell_regrown v0
  have rv1 := cell_regrown v1
  have rv2 := cell_regrown v2
  have rv3 := cell_regrown v3
  have rv4 := cell_regrown v4
  have rv5 := cell_regrown v5
  have rv6 := cell_regrown v6
  have rv7 := cell_regrown v7
  have rv8 := cell_regrown v8
  refine wp_region_quiet_below (by kernel_rfl) (by kernel_rfl) ?_
  repeat (go_big_quiet_step (exact Calls.regrown_of (same_below (numc _ _))))
  refine wpQuiet_nil ?_
  intro _ hw'
  obtain ⟨⟨dq, osq⟩, hw''⟩ := hw'
  subst hw''
  go_wp2
  go_ret
  exact ⟨rfl, below_next (below_next (below_alloc (below_alloc (below_alloc (below_next hbc hb2) _) _) _) hb3) (below_regrown _ _ _)⟩
def L11 : ByteArray := ⟨#[0, 0, 8, 0, 0, 0, 0, 0, 0, 0, 0, 0]⟩
theorem eqL11 : (⟨#[0, 0]⟩ : ByteArray) ++ strOfNums [IntKind.u8.wrap 8, IntKind.u8.wrap (Go.bits .and .i64 2048 255)] ++ zeros 8 = L11 := by decide +kernel
theorem gotL11 (w : World) : Calls Try.prog 26 #[.string L11] w fun e w' => e = .returned (.tuple #[.agg #[.int .i64 0, .bool false, .int .i64 1, .bool false, .bool false, .bool false, .bool false, .int .i64 0, .int .i64 0], .agg #[.int .i64 0, .int .i64 0, .int .i64 0, .int .i64 0], .int .i64 0]) ∧ Below w.heap.size w w' := by
  have := got L11 w (by decide)
  rw [show gotE L11 = 0 by decide +kernel, show gotH L11 = ⟨0, false, 1, false, false, false, false, 0, 0⟩ by decide +kernel, show gotC L11 4 = 0 by decide +kernel, show gotC L11 6 = 0 by decide +kernel, show gotC L11 8 = 0 by decide +kernel, show gotC L11 10 = 0 by decide +kernel] at this
  exact this
theorem putL11 (w : World) : Calls Try.prog 24 #[.agg #[.int .i64 0, .bool false, .int .i64 1, .bool false, .bool false, .bool false, .bool false, .int .i64 0, .int .i64 0], .agg #[.int .i64 0, .int .i64 0, .int .i64 0, .int .i64 0]] w fun e w' => e = .returned (.tuple #[.string L11, .int .i64 0]) ∧ Below w.heap.size w w' := by
  have := wrote ⟨0, false, 1, false, false, false, false, 0, 0⟩ 0 0 0 0 w
  rw [show wroteE ⟨0, false, 1, false, false, false, false, 0, 0⟩ 0 0 0 0 = 0 by decide +kernel, show wroteS ⟨0, false, 1, false, false, false, false, 0, 0⟩ 0 0 0 0 = L11 by decide +kernel] at this
  exact this
theorem selfL11 : (L11.toList == L11.toList) = true := beq_self_eq_true _
theorem eqq11 (w : World) : (Op.equalIn 10000 36 (.agg #[.int .i64 0, .bool false, .int .i64 1, .bool false, .bool false, .bool false, .bool false, .int .i64 0, .int .i64 0]) (.agg #[.int .i64 0, .bool false, .int .i64 1, .bool false, .bool false, .bool false, .bool false, .int .i64 0, .int .i64 0])).run Try.prog w = .ok true w := by
  have := eqHead ⟨0, false, 1, false, false, false, false, 0, 0⟩ ⟨0, false, 1, false, false, false, false, 0, 0⟩ w
  rw [eqB_self] at this
  exact this
set_option maxHeartbeats 8000000 in
set_option maxRecDepth 100000 in
theorem bits_11 (u : Int) (w : World) (hk : Go.bits .and .i64 u 15 = 11) :
    Calls Try.prog 9 #[.int .i64 u] w fun e w' => e = .returned (.bool true) ∧ Below w.heap.size w w' := by
  go_enter Try.func9, Try.ntmps9
  go_wp2_with fail
  refine (awake6 _).mono ?_
  rintro e w1 ⟨rfl, hb1⟩
  go_upto_region 5 with (fail)
  go_cut [5] (fun v5 wc => v5 = .string L11 ∧ Below w.heap.size w wc)
  case first =>
    have hmk : ∀ w, (Instr.makeSlice 49 (.int .i64 8) (.int .i64 8)).run Try.prog w = .ok (.slice (some ⟨w.heap.size, 0, none⟩) 8 8) (w.alloc (.cells #[.int .u8 0, .int .u8 0, .int .u8 0, .int .u8 0, .int .u8 0, .int .u8 0, .int .u8 0, .int .u8 0] 5)) := fun _ => by kernel_rfl
    have hc2 := conv2 (IntKind.u8.wrap 8) (IntKind.u8.wrap (Go.bits .and .i64 2048 255))
    have hc8 := conv8
    have z2 := strs_size (IntKind.u8.wrap 8) (IntKind.u8.wrap (Go.bits .and .i64 2048 255))
    have z8 := zeros_size 8
    go_region_with (fail)
    all_goals
      go_wp2
      go_meet
      case rel => exact ⟨congrArg Value.string eqL11, below_drew (below_alloc (below_alloc hb1 _) _)⟩
  case rest =>
  obtain ⟨rfl, hbc⟩ := hcut
  have q1 := eqq11
  have q2 := eqArr 0 0 0 0
  have q3 := selfL11
  go_wp2_with fail
  refine (gotL11 _).mono ?_
  rintro e w2 ⟨rfl, hb2⟩
  go_wp2_with fail
  refine (putL11 _).mono ?_
  rintro e w3 ⟨rfl, hb3⟩
  have x0 : w3.cell? ⟨w2.heap.size, 0, none⟩ = some (.int .i64 0) := bcell hb3 (by go_simp)
  have x1 : w3.cell? ⟨w2.heap.size, 1, none⟩ = some (.bool false) := bcell hb3 (by go_simp)
  have x2 : w3.cell? ⟨w2.heap.size, 2, none⟩ = some (.int .i64 1) := bcell hb3 (by go_simp)
  have x3 : w3.cell? ⟨w2.heap.size, 3, none⟩ = some (.bool false) := bcell hb3 (by go_simp)
  have x4 : w3.cell? ⟨w2.heap.size, 4, none⟩ = some (.bool false) := bcell hb3 (by go_simp)
  have x5 : w3.cell? ⟨w2.heap.size, 5, none⟩ = some (.bool false) := bcell hb3 (by go_simp)
  have x6 : w3.cell? ⟨w2.heap.size, 6, none⟩ = some (.bool false) := bcell hb3 (by go_simp)
  have x7 : w3.cell? ⟨w2.heap.size, 7, none⟩ = some (.int .i64 0) := bcell hb3 (by go_simp)
  have x8 : w3.cell? ⟨w2.heap.size, 8, none⟩ = some (.int .i64 0) := bcell hb3 (by go_simp)
  have y0 : w3.cell? ⟨w2.heap.size + 1, 0, none⟩ = some (.int .i64 0) := bcell hb3 (by go_simp)
  have y1 : w3.cell? ⟨w2.heap.size + 1, 1, none⟩ = some (.int .i64 0) := bcell hb3 (by go_simp)
  have y2 : w3.cell? ⟨w2.heap.size + 1, 2, none⟩ = some (.int .i64 0) := bcell hb3 (by go_simp)
  have y3 : w3.cell? ⟨w2.heap.size + 1, 3, none⟩ = some (.int .i64 0) := bcell hb3 (by go_simp)
  have v0 : w3.cell? ⟨w2.heap.size + 1 + 1, 99, none⟩ = some (.int .i64 0) := bcell hb3 (by go_simp)
  have v1 : w3.cell? ⟨w2.heap.size + 1 + 1, 100, none⟩ = some (.bool false) := bcell hb3 (by go_simp)
  have v2 : w3.cell? ⟨w2.heap.size + 1 + 1, 101, none⟩ = some (.int .i64 1) := bcell hb3 (by go_simp)
  have v3 : w3.cell? ⟨w2.heap.size + 1 + 1, 102, none⟩ = some (.bool false) := bcell hb3 (by go_simp)
  have v4 : w3.cell? ⟨w2.heap.size + 1 + 1, 103, none⟩ = some (.bool false) := bcell hb3 (by go_simp)
  have v5 : w3.cell? ⟨w2.heap.size + 1 + 1, 104, none⟩ = some (.bool false) := bcell hb3 (by go_simp)
  have v6 : w3.cell? ⟨w2.heap.size + 1 + 1, 105, none⟩ = some (.bool false) := bcell hb3 (by go_simp)
  have v7 : w3.cell? ⟨w2.heap.size + 1 + 1, 106, none⟩ = some (.int .i64 0) := bcell hb3 (by go_simp)
  have v8 : w3.cell? ⟨w2.heap.size + 1 + 1, 107, none⟩ = some (.int .i64 0) := bcell hb3 (by go_simp)
  go_wp2_with fail
  have rx0 := cell_regrown x0
  have rx1 := cell_regrown x1
  have rx2 := cell_regrown x2
  have rx3 := cell_regrown x3
  have rx4 := cell_regrown x4
  have rx5 := cell_regrown x5
  have rx6 := cell_regrown x6
  have rx7 := cell_regrown x7
  have rx8 := cell_regrown x8
  have ry0 := cell_regrown y0
  have ry1 := cell_regrown y1
  have ry2 := cell_regrown y2
  have ry3 := cell_regrown y3
  have rv0 := cell_regrown v0
  have rv1 := cell_regrown v1
  have rv2 := cell_regrown v2
  have rv3 := cell_regrown v3
  have rv4 := cell_regrown v4
  have rv5 := cell_regrown v5
  have rv6 := cell_regrown v6
  have rv7 := cell_regrown v7
  have rv8 := cell_regrown v8
  refine wp_region_quiet_below (by kernel_rfl) (by kernel_rfl) ?_
  repeat (go_big_quiet_step (exact Calls.regrown_of (same_below (numc _ _))))
  refine wpQuiet_nil ?_
  intro _ hw'
  obtain ⟨⟨dq, osq⟩, hw''⟩ := hw'
  subst hw''
  go_wp2
  go_ret
  exact ⟨rfl, below_next (below_next (below_alloc (below_alloc (below_alloc (below_next hbc hb2) _) _) _) hb3) (below_regrown _ _ _)⟩
end Go.Proofs.Ytccnckppkkhoeaa.Hd
