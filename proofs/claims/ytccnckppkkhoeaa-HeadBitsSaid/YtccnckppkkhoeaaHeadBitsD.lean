/- wimplelaw6.HeadBits answers true, for all whole numbers. -/
import Derived.Test.YtccnckppkkhoeaaHeadBitsW
import Derived.Lib.Hide
import Derived.Deep.DeepCutAuto
import Derived.Deep.CutBlock
import Derived.BigRegion
import Derived.RegionTactic
import Derived.Deep.RegionWith
import Derived.Lib.QuietBelow
import Derived.BigQuiet
namespace Go.Proofs.Ytccnckppkkhoeaa.Hd
open Go.RowKit Go.PlainAid Go.Proofs.Ytccnckppkkhoeaa.Base Go.Proofs.Ytccnckppkkhoeaa.Oct
set_option linter.unusedVariables false

def L12 : ByteArray := ⟨#[0, 0, 16, 0, 0, 0, 0, 0, 0, 0, 0, 0]⟩
theorem eqL12 : (⟨#[0, 0]⟩ : ByteArray) ++ strOfNums [IntKind.u8.wrap 16, IntKind.u8.wrap (Go.bits .and .i64 4096 255)] ++ zeros 8 = L12 := by decide +kernel
theorem gotL12 (w : World) : Calls Try.prog 26 #[.string L12] w fun e w' => e = .returned (.tuple #[.agg #[.int .i64 0, .bool false, .int .i64 2, .bool false, .bool false, .bool false, .bool false, .int .i64 0, .int .i64 0], .agg #[.int .i64 0, .int .i64 0, .int .i64 0, .int .i64 0], .int .i64 0]) ∧ Below w.heap.size w w' := by
  have := got L12 w (by decide)
  rw [show gotE L12 = 0 by decide +kernel, show gotH L12 = ⟨0, false, 2, false, false, false, false, 0, 0⟩ by decide +kernel, show gotC L12 4 = 0 by decide +kernel, show gotC L12 6 = 0 by decide +kernel, show gotC L12 8 = 0 by decide +kernel, show gotC L12 10 = 0 by decide +kernel] at this
  exact this
theorem putL12 (w : World) : Calls Try.prog 24 #[.agg #[.int .i64 0, .bool false, .int .i64 2, .bool false, .bool false, .bool false, .bool false, .int .i64 0, .int .i64 0], .agg #[.int .i64 0, .int .i64 0, .int .i64 0, .int .i64 0]] w fun e w' => e = .returned (.tuple #[.string L12, .int .i64 0]) ∧ Below w.heap.size w w' := by
  have := wrote ⟨0, false, 2, false, false, false, false, 0, 0⟩ 0 0 0 0 w
  rw [show wroteE ⟨0, false, 2, false, false, false, false, 0, 0⟩ 0 0 0 0 = 0 by decide +kernel, show wroteS ⟨0, false, 2, false, false, false, false, 0, 0⟩ 0 0 0 0 = L12 by decide +kernel] at this
  exact this
theorem selfL12 : (L12.toList == L12.toList) = true := beq_self_eq_true _
theorem eqq12 (w : World) : (Op.equalIn 10000 36 (.agg #[.int .i64 0, .bool false, .int .i64 2, .bool false, .bool false, .bool false, .bool false, .int .i64 0, .int .i64 0]) (.agg #[.int .i64 0, .bool false, .int .i64 2, .bool false, .bool false, .bool false, .bool false, .int .i64 0, .int .i64 0])).run Try.prog w = .ok true w := by
  have := eqHead ⟨0, false, 2, false, false, false, false, 0, 0⟩ ⟨0, false, 2, false, false, false, false, 0, 0⟩ w
  rw [eqB_self] at this
  exact this
set_option maxHeartbeats 8000000 in
set_option maxRecDepth 100000 in
theorem bits_12 (u : Int) (w : World) (hk : Go.bits .and .i64 u 15 = 12) :
    Calls Try.prog 9 #[.int .i64 u] w fun e w' => e = .returned (.bool true) ∧ Below w.heap.size w w' := by
  go_enter Try.func9, Try.ntmps9
  go_wp2_with fail
  refine (awake6 _).mono ?_
  rintro e w1 ⟨rfl, hb1⟩
  go_upto_region 5 with (fail)
  go_cut [5] (fun v5 wc => v5 = .string L12 ∧ Below w.heap.size w wc)
  case first =>
    have hmk : ∀ w, (Instr.makeSlice 49 (.int .i64 8) (.int .i64 8)).run Try.prog w = .ok (.slice (some ⟨w.heap.size, 0, none⟩) 8 8) (w.alloc (.cells #[.int .u8 0, .int .u8 0, .int .u8 0, .int .u8 0, .int .u8 0, .int .u8 0, .int .u8 0, .int .u8 0] 5)) := fun _ => by kernel_rfl
    have hc2 := conv2 (IntKind.u8.wrap 16) (IntKind.u8.wrap (Go.bits .and .i64 4096 255))
    have hc8 := conv8
    have z2 := strs_size (IntKind.u8.wrap 16) (IntKind.u8.wrap (Go.bits .and .i64 4096 255))
    have z8 := zeros_size 8
    go_region_with (fail)
    all_goals
      go_wp2
      go_meet
      case rel => exact ⟨congrArg Value.string eqL12, below_drew (below_alloc (below_alloc hb1 _) _)⟩
  case rest =>
  obtain ⟨rfl, hbc⟩ := hcut
  have q1 := eqq12
  have q2 := eqArr 0 0 0 0
  have q3 := selfL12
  go_wp2_with fail
  refine (gotL12 _).mono ?_
  rintro e w2 ⟨rfl, hb2⟩
  go_wp2_with fail
  refine (putL12 _).mono ?_
  rintro e w3 ⟨rfl, hb3⟩
  have x0 : w3.cell? ⟨w2.heap.size, 0, none⟩ = some (.int .i64 0) := bcell hb3 (by go_simp)
  have x1 : w3.cell? ⟨w2.heap.size, 1, none⟩ = some (.bool false) := bcell hb3 (by go_simp)
  have x2 : w3.cell? ⟨w2.heap.size, 2, none⟩ = some (.int .i64 2) := bcell hb3 (by go_simp)
  have x3 : w3.cell? ⟨w2.heap.size, 3, none⟩ = some (.bool false) := bcell hb3 (by go_simp)
  have x4 : w3.cell? ⟨w2.heap.size, 4, none⟩ = some (.bool false) := bcell hb3 (by go_simp)
  have x5 : w3.cell? ⟨w2.heap.size, 5, none⟩ = some (.bool false) := bcell hb3 (by go_simp)
  have x6 : w3.cell? ⟨w2.heap.size, 6, none⟩ = some (.bool false) := bcell hb3 (by go_simp)
  have x7 : w3.cell? ⟨w2.heap.size, 7, none⟩ = some (.int .i64 0) := bcell hb3 (by go_simp)
  have x8 : w3.cell? ⟨w2.heap.size, 8, none⟩ = some (.int .i64 0) := bcell hb3 (by go_simp)
  have y0 : w3.cell? ⟨w2.heap.size + 1, 0, none⟩ = some (.int .i64 0) := bcell hb3 (by go_simp)
  have y1 : w3.cell? ⟨w2.heap.size + 1, 1, none⟩ = some (.int .i64 0) := bcell hb3 (by go_simp)
  have y2 : w3.cell? ⟨w2.heap.size + 1, 2, none⟩ = some (.int .i64 0) := bcell hb3 (by go_simp)
  have y3 : w3.cell? ⟨w2.heap.size + 1, 3, none⟩ = some (.int .i64 0) := bcell hb3 (by go_simp)
  have v0 : w3.cell? ⟨w2.heap.size + 1 + 1, 108, none⟩ = some (.int .i64 0) := bcell hb3 (by go_simp)
  have v1 : w3.cell? ⟨w2.heap.size + 1 + 1, 109, none⟩ = some (.bool false) := bcell hb3 (by go_simp)
  have v2 : w3.cell? ⟨w2.heap.size + 1 + 1, 110, none⟩ = some (.int .i64 2) := bcell hb3 (by go_simp)
  have v3 : w3.cell? ⟨w2.heap.size + 1 + 1, 111, none⟩ = some (.bool false) := bcell hb3 (by go_simp)
  have v4 : w3.cell? ⟨w2.heap.size + 1 + 1, 112, none⟩ = some (.bool false) := bcell hb3 (by go_simp)
  have v5 : w3.cell? ⟨w2.heap.size + 1 + 1, 113, none⟩ = some (.bool false) := bcell hb3 (by go_simp)
  have v6 : w3.cell? ⟨w2.heap.size + 1 + 1, 114, none⟩ = some (.bool false) := bcell hb3 (by go_simp)
  have v7 : w3.cell? ⟨w2.heap.size + 1 + 1, 115, none⟩ = some (.int .i64 0) := bcell hb3 (by go_simp)
  have v8 : w3.cell? ⟨w2.heap.size + 1 + 1, 116, none⟩ = some (.int .i64 0) := bcell hb3 (by go_simp)
  go_wp2_with fail
  have rx0 := cell_regrown x0
  have rx1 := cell_regrown x1
  have rx2 := cell_regrown x2
  have rx3 := cell_regrown x3
  have rx4 := cell_regrown x4
  have rx5 := cell_regrown x5
  have rx6 := cell_regrown x6
  have rx7 := cell_regrown x7
  have rx8 := cell_regrown x8
  have ry0 := cell_regrown y0
  have ry1 := cell_regrown y1
  have ry2 := cell_regrown y2
  have ry3 := cell_regrown y3
  have rv0 := cell_regrown v0
  have rv1 := cell_regrown v1
  have rv2 := cell_regrown v2
  have rv3 := cell_regrown v3
  have rv4 := cell_regrown v4
  have rv5 := cell_regrown v5
  have rv6 := cell_regrown v6
  have rv7 := cell_regrown v7
  have rv8 := cell_regrown v8
  refine wp_region_quiet_below (by kernel_rfl) (by kernel_rfl) ?_
  repeat (go_big_quiet_step (exact Calls.regrown_of (same_below (numc _ _))))
  refine wpQuiet_nil ?_
  intro _ hw'
  obtain ⟨⟨dq, osq⟩, hw''⟩ := hw'
  subst hw''
  go_wp2
  go_ret
  exact ⟨rfl, below_next (below_next (below_alloc (below_alloc (below_alloc (below_next hbc hb2) _) _) _) hb3) (below_regrown _ _ _)⟩
def L13 : ByteArray := ⟨#[0, 0, 32, 0, 0, 0, 0, 0, 0, 0, 0, 0]⟩
theorem eqL13 : (⟨#[0, 0]⟩ : ByteArray) ++ strOfNums [IntKind.u8.wrap 32, IntKind.u8.wrap (Go.bits .and .i64 8192 255)] ++ zeros 8 = L13 := by decide +kernel
theorem gotL13 (w : World) : Calls Try.prog 26 #[.string L13] w fun e w' => e = .returned (.tuple #[.agg #[.int .i64 0, .bool false, .int .i64 4, .bool false, .bool false, .bool false, .bool false, .int .i64 0, .int .i64 0], .agg #[.int .i64 0, .int .i64 0, .int .i64 0, .int .i64 0], .int .i64 0]) ∧ Below w.heap.size w w' := by
  have := got L13 w (by decide)
  rw [show gotE L13 = 0 by decide +kernel, show gotH L13 = ⟨0, false, 4, false, false, false, false, 0, 0⟩ by decide +kernel, show gotC L13 4 = 0 by decide +kernel, show gotC L13 6 = 0 by decide +kernel, show gotC L13 8 = 0 by decide +kernel, show gotC L13 10 = 0 by decide +kernel] at this
  exact this
theorem putL13 (w : World) : Calls Try.prog 24 #[.agg #[.int .i64 0, .bool false, .int .i64 4, .bool false, .bool false, .bool false, .bool false, .int .i64 0, .int .i64 0], .agg #[.int .i64 0, .int .i64 0, .int .i64 0, .int .i64 0]] w fun e w' => e = .returned (.tuple #[.string L13, .int .i64 0]) ∧ Below w.heap.size w w' := by
  have := wrote ⟨0, false, 4, false, false, false, false, 0, 0⟩ 0 0 0 0 w
  rw [show wroteE ⟨0, false, 4, false, false, false, false, 0, 0⟩ 0 0 0 0 = 0 by decide +kernel, show wroteS ⟨0, false, 4, false, false, false, false, 0, 0⟩ 0 0 0 0 = L13 by decide +kernel] at this
  exact this
theorem selfL13 : (L13.toList == L13.toList) = true := beq_self_eq_true _
theorem eqq13 (w : World) : (Op.equalIn 10000 36 (.agg #[.int .i64 0, .bool false, .int .i64 4, .bool false, .bool false, .bool false, .bool false, .int .i64 0, .int .i64 0]) (.agg #[.int .i64 0, .bool false, .int .i64 4, .bool false, .bool false, .bool false, .bool false, .int .i64 0, .int .i64 0])).run Try.prog w = .ok true w := by
  have := eqHead ⟨0, false, 4, false, false, false, false, 0, 0⟩ ⟨0, false, 4, false, false, false, false, 0, 0⟩ w
  rw [eqB_self] at this
  exact this
set_option maxHeartbeats 8000000 in
set_option maxRecDepth 100000 in
theorem bits_13 (u : Int) (w : World) (hk : Go.bits .and .i64 u 15 = 13) :
    Calls Try.prog 9 #[.int .i64 u] w fun e w' => e = .returned (.bool true) ∧ Below w.heap.size w w' := by
  go_enter Try.func9, Try.ntmps9
  go_wp2_with fail
  refine (awake6 _).mono ?_
  rintro e w1 ⟨rfl, hb1⟩
  go_upto_region 5 with (fail)
  go_cut [5] (fun v5 wc => v5 = .string L13 ∧ Below w.heap.size w wc)
  case first =>
    have hmk : ∀ w, (Instr.makeSlice 49 (.int .i64 8) (.int .i64 8)).run Try.prog w = .ok (.slice (some ⟨w.heap.size, 0, none⟩) 8 8) (w.alloc (.cells #[.int .u8 0, .int .u8 0, .int .u8 0, .int .u8 0, .int .u8 0, .int .u8 0, .int .u8 0, .int .u8 0] 5)) := fun _ => by kernel_rfl
    have hc2 := conv2 (IntKind.u8.wrap 32) (IntKind.u8.wrap (Go.bits .and .i64 8192 255))
    have hc8 := conv8
    have z2 := strs_size (IntKind.u8.wrap 32) (IntKind.u8.wrap (Go.bits .and .i64 8192 255))
    have z8 := zeros_size 8
    go_region_with (fail)
    all_goals
      go_wp2
      go_meet
      case rel => exact ⟨congrArg Value.string eqL13, below_drew (below_alloc (below_alloc hb1 _) _)⟩
  case rest =>
  obtain ⟨rfl, hbc⟩ := hcut
  have q1 := eqq13
  have q2 := eqArr 0 0 0 0
  have q3 := selfL13
  go_wp2_with fail
  refine (gotL13 _).mono ?_
  rintro e w2 ⟨rfl, hb2⟩
  go_wp2_with fail
  refine (putL13 _).mono ?_
  rintro e w3 ⟨rfl, hb3⟩
  have x0 : w3.cell? ⟨w2.heap.size, 0, none⟩ = some (.int .i64 0) := bcell hb3 (by go_simp)
  have x1 : w3.cell? ⟨w2.heap.size, 1, none⟩ = some (.bool false) := bcell hb3 (by go_simp)
  have x2 : w3.cell? ⟨w2.heap.size, 2, none⟩ = some (.int .i64 4) := bcell hb3 (by go_simp)
  have x3 : w3.cell? ⟨w2.heap.size, 3, none⟩ = some (.bool false) := bcell hb3 (by go_simp)
  have x4 : w3.cell? ⟨w2.heap.size, 4, none⟩ = some (.bool false) := bcell hb3 (by go_simp)
  have x5 : w3.cell? ⟨w2.heap.size, 5, none⟩ = some (.bool false) := bcell hb3 (by go_simp)
  have x6 : w3.cell? ⟨w2.heap.size, 6, none⟩ = some (.bool false) := bcell hb3 (by go_simp)
  have x7 : w3.cell? ⟨w2.heap.size, 7, none⟩ = some (.int .i64 0) := bcell hb3 (by go_simp)
  have x8 : w3.cell? ⟨w2.heap.size, 8, none⟩ = some (.int .i64 0) := bcell hb3 (by go_simp)
  have y0 : w3.cell? ⟨w2.heap.size + 1, 0, none⟩ = some (.int .i64 0) := bcell hb3 (by go_simp)
  have y1 : w3.cell? ⟨w2.heap.size + 1, 1, none⟩ = some (.int .i64 0) := bcell hb3 (by go_simp)
  have y2 : w3.cell? ⟨w2.heap.size + 1, 2, none⟩ = some (.int .i64 0) := bcell hb3 (by go_simp)
  have y3 : w3.cell? ⟨w2.heap.size + 1, 3, none⟩ = some (.int .i64 0) := bcell hb3 (by go_simp)
  have v0 : w3.cell? ⟨w2.heap.size + 1 + 1, 117, none⟩ = some (.int .i64 0) := bcell hb3 (by go_simp)
  have v1 : w3.cell? ⟨w2.heap.size + 1 + 1, 118, none⟩ = some (.bool false) := bcell hb3 (by go_simp)
  have v2 : w3.cell? ⟨w2.heap.size + 1 + 1, 119, none⟩ = some (.int .i64 4) := bcell hb3 (by go_simp)
  have v3 : w3.cell? ⟨w2.heap.size + 1 + 1, 120, none⟩ = some (.bool false) := bcell hb3 (by go_simp)
  have v4 : w3.cell? ⟨w2.heap.size + 1 + 1, 121, none⟩ = some (.bool false) := bcell hb3 (by go_simp)
  have v5 : w3.cell? ⟨w2.heap.size + 1 + 1, 122, none⟩ = some (.bool false) := bcell hb3 (by go_simp)
  have v6 : w3.cell? ⟨w2.heap.size + 1 + 1, 123, none⟩ = some (.bool false) := bcell hb3 (by go_simp)
  have v7 : w3.cell? ⟨w2.heap.size + 1 + 1, 124, none⟩ = some (.int .i64 0) := bcell hb3 (by go_simp)
  have v8 : w3.cell? ⟨w2.heap.size + 1 + 1, 125, none⟩ = some (.int .i64 0) := bcell hb3 (by go_simp)
  go_wp2_with fail
  have rx0 := cell_regrown x0
  have rx1 := cell_regrown x1
  have rx2 := cell_regrown x2
  have rx3 := cell_regrown x3
  have rx4 := cell_regrown x4
  have rx5 := cell_regrown x5
  have rx6 := cell_regrown x6
  have rx7 := cell_regrown x7
  have rx8 := cell_regrown x8
  have ry0 := cell_regrown y0
  have ry1 := cell_regrown y1
  have ry2 := cell_regrown y2
  have ry3 := cell_regrown y3
  have rv0 := cell_regrown v0
  have rv1 := cell_regrown v1
  have rv2 := cell_regrown v2
  have rv3 := cell_regrown v3
  have rv4 := cell_regrown v4
  have rv5 := cell_regrown v5
  have rv6 := cell_regrown v6
  have rv7 := cell_regrown v7
  have rv8 := cell_regrown v8
  refine wp_region_quiet_below (by kernel_rfl) (by kernel_rfl) ?_
  repeat (go_big_quiet_step (exact Calls.regrown_of (same_below (numc _ _))))
  refine wpQuiet_nil ?_
  intro _ hw'
  obtain ⟨⟨dq, osq⟩, hw''⟩ := hw'
  subst hw''
  go_wp2
  go_ret
  exact ⟨rfl, below_next (below_next (below_alloc (below_alloc (below_alloc (below_next hbc hb2) _) _) _) hb3) (below_regrown _ _ _)⟩
def L14 : ByteArray := ⟨#[0, 0, 64, 0, 0, 0, 0, 0, 0, 0, 0, 0]⟩
theorem eqL14 : (⟨#[0, 0]⟩ : ByteArray) ++ strOfNums [IntKind.u8.wrap 64, IntKind.u8.wrap (Go.bits .and .i64 16384 255)] ++ zeros 8 = L14 := by decide +kernel
theorem gotL14 (w : World) : Calls Try.prog 26 #[.string L14] w fun e w' => e = .returned (.tuple #[.agg #[.int .i64 0, .bool false, .int .i64 8, .bool false, .bool false, .bool false, .bool false, .int .i64 0, .int .i64 0], .agg #[.int .i64 0, .int .i64 0, .int .i64 0, .int .i64 0], .int .i64 0]) ∧ Below w.heap.size w w' := by
  have := got L14 w (by decide)
  rw [show gotE L14 = 0 by decide +kernel, show gotH L14 = ⟨0, false, 8, false, false, false, false, 0, 0⟩ by decide +kernel, show gotC L14 4 = 0 by decide +kernel, show gotC L14 6 = 0 by decide +kernel, show gotC L14 8 = 0 by decide +kernel, show gotC L14 10 = 0 by decide +kernel] at this
  exact this
theorem putL14 (w : World) : Calls Try.prog 24 #[.agg #[.int .i64 0, .bool false, .int .i64 8, .bool false, .bool false, .bool false, .bool false, .int .i64 0, .int .i64 0], .agg #[.int .i64 0, .int .i64 0, .int .i64 0, .int .i64 0]] w fun e w' => e = .returned (.tuple #[.string L14, .int .i64 0]) ∧ Below w.heap.size w w' := by
  have := wrote ⟨0, false, 8, false, false, false, false, 0, 0⟩ 0 0 0 0 w
  rw [show wroteE ⟨0, false, 8, false, false, false, false, 0, 0⟩ 0 0 0 0 = 0 by decide +kernel, show wroteS ⟨0, false, 8, false, false, false, false, 0, 0⟩ 0 0 0 0 = L14 by decide +kernel] at this
  exact this
theorem selfL14 : (L14.toList == L14.toList) = true := beq_self_eq_true _
theorem eqq14 (w : World) : (Op.equalIn 10000 36 (.agg #[.int .i64 0, .bool false, .int .i64 8, .bool false, .bool false, .bool false, .bool false, .int .i64 0, .int .i64 0]) (.agg #[.int .i64 0, .bool false, .int .i64 8, .bool false, .bool false, .bool false, .bool false, .int .i64 0, .int .i64 0])).run Try.prog w = .ok true w := by
  have := eqHead ⟨0, false, 8, false, false, false, false, 0, 0⟩ ⟨0, false, 8, false, false, false, false, 0, 0⟩ w
  rw [eqB_self] at this
  exact this
set_option maxHeartbeats 8000000 in
set_option maxRecDepth 100000 in
theorem bits_14 (u : Int) (w : World) (hk : Go.bits .and .i64 u 15 = 14) :
    Calls Try.prog 9 #[.int .i64 u] w fun e w' => e = .returned (.bool true) ∧ Below w.heap.size w w' := by
  go_enter Try.func9, Try.ntmps9
  go_wp2_with fail
  refine (awake6 _).mono ?_
  rintro e w1 ⟨rfl, hb1⟩
  go_upto_region 5 with (fail)
  go_cut [5] (fun v5 wc => v5 = .string L14 ∧ Below w.heap.size w wc)
  case first =>
    have hmk : ∀ w, (Instr.makeSlice 49 (.int .i64 8) (.int .i64 8)).run Try.prog w = .ok (.slice (some ⟨w.heap.size, 0, none⟩) 8 8) (w.alloc (.cells #[.int .u8 0, .int .u8 0, .int .u8 0, .int .u8 0, .int .u8 0, .int .u8 0, .int .u8 0, .int .u8 0] 5)) := fun _ => by kernel_rfl
    have hc2 := conv2 (IntKind.u8.wrap 64) (IntKind.u8.wrap (Go.bits .and .i64 16384 255))
    have hc8 := conv8
    have z2 := strs_size (IntKind.u8.wrap 64) (IntKind.u8.wrap (Go.bits .and .i64 16384 255))
    have z8 := zeros_size 8
    go_region_with (fail)
    all_goals
      go_wp2
      go_meet
      case rel => exact ⟨congrArg Value.string eqL14, below_drew (below_alloc (below_alloc hb1 _) _)⟩
  case rest =>
  obtain ⟨rfl, hbc⟩ := hcut
  have q1 := eqq14
  have q2 := eqArr 0 0 0 0
  have q3 := selfL14
  go_wp2_with fail
  refine (gotL14 _).mono ?_
  rintro e w2 ⟨rfl, hb2⟩
  go_wp2_with fail
  refine (putL14 _).mono ?_
  rintro e w3 ⟨rfl, hb3⟩
  have x0 : w3.cell? ⟨w2.heap.size, 0, none⟩ = some (.int .i64 0) := bcell hb3 (by go_simp)
  have x1 : w3.cell? ⟨w2.heap.size, 1, none⟩ = some (.bool false) := bcell hb3 (by go_simp)
  have x2 : w3.cell? ⟨w2.heap.size, 2, none⟩ = some (.int .i64 8) := bcell hb3 (by go_simp)
  have x3 : w3.cell? ⟨w2.heap.size, 3, none⟩ = some (.bool false) := bcell hb3 (by go_simp)
  have x4 : w3.cell? ⟨w2.heap.size, 4, none⟩ = some (.bool false) := bcell hb3 (by go_simp)
  have x5 : w3.cell? ⟨w2.heap.size, 5, none⟩ = some (.bool false) := bcell hb3 (by go_simp)
  have x6 : w3.cell? ⟨w2.heap.size, 6, none⟩ = some (.bool false) := bcell hb3 (by go_simp)
  have x7 : w3.cell? ⟨w2.heap.size, 7, none⟩ = some (.int .i64 0) := bcell hb3 (by go_simp)
  have x8 : w3.cell? ⟨w2.heap.size, 8, none⟩ = some (.int .i64 0) := bcell hb3 (by go_simp)
  have y0 : w3.cell? ⟨w2.heap.size + 1, 0, none⟩ = some (.int .i64 0) := bcell hb3 (by go_simp)
  have y1 : w3.cell? ⟨w2.heap.size + 1, 1, none⟩ = some (.int .i64 0) := bcell hb3 (by go_simp)
  have y2 : w3.cell? ⟨w2.heap.size + 1, 2, none⟩ = some (.int .i64 0) := bcell hb3 (by go_simp)
  have y3 : w3.cell? ⟨w2.heap.size + 1, 3, none⟩ = some (.int .i64 0) := bcell hb3 (by go_simp)
  have v0 : w3.cell? ⟨w2.heap.size + 1 + 1, 126, none⟩ = some (.int .i64 0) := bcell hb3 (by go_simp)
  have v1 : w3.cell? ⟨w2.heap.size + 1 + 1, 127, none⟩ = some (.bool false) := bcell hb3 (by go_simp)
  have v2 : w3.cell? ⟨w2.heap.size + 1 + 1, 128, none⟩ = some (.int .i64 8) := bcell hb3 (by go_simp)
  have v3 : w3.cell? ⟨w2.heap.size + 1 + 1, 129, none⟩ = some (.bool false) := bcell hb3 (by go_simp)
  have v4 : w3.cell? ⟨w2.heap.size + 1 + 1, 130, none⟩ = some (.bool false) := bcell hb3 (by go_simp)
  have v5 : w3.cell? ⟨w2.heap.size + 1 + 1, 131, none⟩ = some (.bool false) := bcell hb3 (by go_simp)
  have v6 : w3.cell? ⟨w2.heap.size + 1 + 1, 132, none⟩ = some (.bool false) := bcell hb3 (by go_simp)
  have v7 : w3.cell? ⟨w2.heap.size + 1 + 1, 133, none⟩ = some (.int .i64 0) := bcell hb3 (by go_simp)
  have v8 : w3.cell? ⟨w2.heap.size + 1 + 1, 134, none⟩ = some (.int .i64 0) := bcell hb3 (by go_simp)
  go_wp2_with fail
  have rx0 := cell_regrown x0
  have rx1 := cell_regrown x1
  have rx2 := cell_regrown x2
  have rx3 := cell_regrown x3
  have rx4 := cell_regrown x4
  have rx5 := cell_regrown x5
  have rx6 := cell_regrown x6
  have rx7 := cell_regrown x7
  have rx8 := cell_regrown x8
  have ry0 := cell_regrown y0
  have ry1 := cell_regrown y1
  have ry2 := cell_regrown y2
  have ry3 := cell_regrown y3
  have rv0 := cell_regrown v0
  have rv1 := cell_regrown v1
  have rv2 := cell_regrown v2
  have rv3 := cell_regrown v3
  have rv4 := cell_regrown v4
  have rv5 := cell_regrown v5
  have rv6 := cell_regrown v6
  have rv7 := cell_regrown v7
  have rv8 := cell_regrown v8
  refine wp_region_quiet_below (by kernel_rfl) (by kernel_rfl) ?_
  repeat (go_big_quiet_step (exact Calls.regrown_of (same_below (numc _ _))))
  refine wpQuiet_nil ?_
  intro _ hw'
  obtain ⟨⟨dq, osq⟩, hw''⟩ := hw'
  subst hw''
  go_wp2
  go_ret
  exact ⟨rfl, below_next (below_next (below_alloc (below_alloc (below_alloc (below_next hbc hb2) _) _) _) hb3) (below_regrown _ _ _)⟩
def L15 : ByteArray := ⟨#[0, 0, 128, 0, 0, 0, 0, 0, 0, 0, 0, 0]⟩
theorem eqL15 : (⟨#[0, 0]⟩ : ByteArray) ++ strOfNums [IntKind.u8.wrap 128, IntKind.u8.wrap (Go.bits .and .i64 32768 255)] ++ zeros 8 = L15 := by decide +kernel
theorem gotL15 (w : World) : Calls Try.prog 26 #[.string L15] w fun e w' => e = .returned (.tuple #[.agg #[.int .i64 0, .bool true, .int .i64 0, .bool false, .bool false, .bool false, .bool false, .int .i64 0, .int .i64 0], .agg #[.int .i64 0, .int .i64 0, .int .i64 0, .int .i64 0], .int .i64 0]) ∧ Below w.heap.size w w' := by
  have := got L15 w (by decide)
  rw [show gotE L15 = 0 by decide +kernel, show gotH L15 = ⟨0, true, 0, false, false, false, false, 0, 0⟩ by decide +kernel, show gotC L15 4 = 0 by decide +kernel, show gotC L15 6 = 0 by decide +kernel, show gotC L15 8 = 0 by decide +kernel, show gotC L15 10 = 0 by decide +kernel] at this
  exact this
theorem putL15 (w : World) : Calls Try.prog 24 #[.agg #[.int .i64 0, .bool true, .int .i64 0, .bool false, .bool false, .bool false, .bool false, .int .i64 0, .int .i64 0], .agg #[.int .i64 0, .int .i64 0, .int .i64 0, .int .i64 0]] w fun e w' => e = .returned (.tuple #[.string L15, .int .i64 0]) ∧ Below w.heap.size w w' := by
  have := wrote ⟨0, true, 0, false, false, false, false, 0, 0⟩ 0 0 0 0 w
  rw [show wroteE ⟨0, true, 0, false, false, false, false, 0, 0⟩ 0 0 0 0 = 0 by decide +kernel, show wroteS ⟨0, true, 0, false, false, false, false, 0, 0⟩ 0 0 0 0 = L15 by decide +kernel] at this
  exact this
theorem selfL15 : (L15.toList == L15.toList) = true := beq_self_eq_true _
theorem eqq15 (w : World) : (Op.equalIn 10000 36 (.agg #[.int .i64 0, .bool true, .int .i64 0, .bool false, .bool false, .bool false, .bool false, .int .i64 0, .int .i64 0]) (.agg #[.int .i64 0, .bool true, .int .i64 0, .bool false, .bool false, .bool false, .bool false, .int .i64 0, .int .i64 0])).run Try.prog w = .ok true w := by
  have := eqHead ⟨0, true, 0, false, false, false, false, 0, 0⟩ ⟨0, true, 0, false, false, false, false, 0, 0⟩ w
  rw [eqB_self] at this
  exact this
set_option maxHeartbeats 8000000 in
set_option maxRecDepth 100000 in
theorem bits_15 (u : Int) (w : World) (hk : Go.bits .and .i64 u 15 = 15) :
    Calls Try.prog 9 #[.int .i64 u] w fun e w' => e = .returned (.bool true) ∧ Below w.heap.size w w' := by
  go_enter Try.func9, Try.ntmps9
  go_wp2_with fail
  refine (awake6 _).mono ?_
  rintro e w1 ⟨rfl, hb1⟩
  go_upto_region 5 with (fail)
  go_cut [5] (fun v5 wc => v5 = .string L15 ∧ Below w.heap.size w wc)
  case first =>
    have hmk : ∀ w, (Instr.makeSlice 49 (.int .i64 8) (.int .i64 8)).run Try.prog w = .ok (.slice (some ⟨w.heap.size, 0, none⟩) 8 8) (w.alloc (.cells #[.int .u8 0, .int .u8 0, .int .u8 0, .int .u8 0, .int .u8 0, .int .u8 0, .int .u8 0, .int .u8 0] 5)) := fun _ => by kernel_rfl
    have hc2 := conv2 (IntKind.u8.wrap 128) (IntKind.u8.wrap (Go.bits .and .i64 32768 255))
    have hc8 := conv8
    have z2 := strs_size (IntKind.u8.wrap 128) (IntKind.u8.wrap (Go.bits .and .i64 32768 255))
    have z8 := zeros_size 8
    go_region_with (fail)
    all_goals
      go_wp2
      go_meet
      case rel => exact ⟨congrArg Value.string eqL15, below_drew (below_alloc (below_alloc hb1 _) _)⟩
  case rest =>
  obtain ⟨rfl, hbc⟩ := hcut
  have q1 := eqq15
  have q2 := eqArr 0 0 0 0
  have q3 := selfL15
  go_wp2_with fail
  refine (gotL15 _).mono ?_
  rintro e w2 ⟨rfl, hb2⟩
  go_wp2_with fail
  refine (putL15 _).mono ?_
  rintro e w3 ⟨rfl, hb3⟩
  have x0 : w3.cell? ⟨w2.heap.size, 0, none⟩ = some (.int .i64 0) := bcell hb3 (by go_simp)
  have x1 : w3.cell? ⟨w2.heap.size, 1, none⟩ = some (.bool true) := bcell hb3 (by go_simp)
  have x2 : w3.cell? ⟨w2.heap.size, 2, none⟩ = some (.int .i64 0) := bcell hb3 (by go_simp)
  have x3 : w3.cell? ⟨w2.heap.size, 3, none⟩ = some (.bool false) := bcell hb3 (by go_simp)
  have x4 : w3.cell? ⟨w2.heap.size, 4, none⟩ = some (.bool false) := bcell hb3 (by go_simp)
  have x5 : w3.cell? ⟨w2.heap.size, 5, none⟩ = some (.bool false) := bcell hb3 (by go_simp)
  have x6 : w3.cell? ⟨w2.heap.size, 6, none⟩ = some (.bool false) := bcell hb3 (by go_simp)
  have x7 : w3.cell? ⟨w2.heap.size, 7, none⟩ = some (.int .i64 0) := bcell hb3 (by go_simp)
  have x8 : w3.cell? ⟨w2.heap.size, 8, none⟩ = some (.int .i64 0) := bcell hb3 (by go_simp)
  have y0 : w3.cell? ⟨w2.heap.size + 1, 0, none⟩ = some (.int .i64 0) := bcell hb3 (by go_simp)
  have y1 : w3.cell? ⟨w2.heap.size + 1, 1, none⟩ = some (.int .i64 0) := bcell hb3 (by go_simp)
  have y2 : w3.cell? ⟨w2.heap.size + 1, 2, none⟩ = some (.int .i64 0) := bcell hb3 (by go_simp)
  have y3 : w3.cell? ⟨w2.heap.size + 1, 3, none⟩ = some (.int .i64 0) := bcell hb3 (by go_simp)
  have v0 : w3.cell? ⟨w2.heap.size + 1 + 1, 135, none⟩ = some (.int .i64 0) := bcell hb3 (by go_simp)
  have v1 : w3.cell? ⟨w2.heap.size + 1 + 1, 136, none⟩ = some (.bool true) := bcell hb3 (by go_simp)
  have v2 : w3.cell? ⟨w2.heap.size + 1 + 1, 137, none⟩ = some (.int .i64 0) := bcell hb3 (by go_simp)
  have v3 : w3.cell? ⟨w2.heap.size + 1 + 1, 138, none⟩ = some (.bool false) := bcell hb3 (by go_simp)
  have v4 : w3.cell? ⟨w2.heap.size + 1 + 1, 139, none⟩ = some (.bool false) := bcell hb3 (by go_simp)
  have v5 : w3.cell? ⟨w2.heap.size + 1 + 1, 140, none⟩ = some (.bool false) := bcell hb3 (by go_simp)
  have v6 : w3.cell? ⟨w2.heap.size + 1 + 1, 141, none⟩ = some (.bool false) := bcell hb3 (by go_simp)
  have v7 : w3.cell? ⟨w2.heap.size + 1 + 1, 142, none⟩ = some (.int .i64 0) := bcell hb3 (by go_simp)
  have v8 : w3.cell? ⟨w2.heap.size + 1 + 1, 143, none⟩ = some (.int .i64 0) := bcell hb3 (by go_simp)
  go_wp2_with fail
  have rx0 := cell_regrown x0
  have rx1 := cell_regrown x1
  have rx2 := cell_regrown x2
  have rx3 := cell_regrown x3
  have rx4 := cell_regrown x4
  have rx5 := cell_regrown x5
  have rx6 := cell_regrown x6
  have rx7 := cell_regrown x7
  have rx8 := cell_regrown x8
  have ry0 := cell_regrown y0
  have ry1 := cell_regrown y1
  have ry2 := cell_regrown y2
  have ry3 := cell_regrown y3
  have rv0 := cell_regrown v0
  have rv1 := cell_regrown v1
  have rv2 := cell_regrown v2
  have rv3 := cell_regrown v3
  have rv4 := cell_regrown v4
  have rv5 := cell_regrown v5
  have rv6 := cell_regrown v6
  have rv7 := cell_regrown v7
  have rv8 := cell_regrown v8
  refine wp_region_quiet_below (by kernel_rfl) (by kernel_rfl) ?_
  repeat (go_big_quiet_step (exact Calls.regrown_of (same_below (numc _ _))))
  refine wpQuiet_nil ?_
  intro _ hw'
  obtain ⟨⟨dq, osq⟩, hw''⟩ := hw'
  subst hw''
  go_wp2
  go_ret
  exact ⟨rfl, below_next (below_next (below_alloc (below_alloc (below_alloc (below_next hbc hb2) _) _) _) hb3) (below_regrown _ _ _)⟩
end Go.Proofs.Ytccnckppkkhoeaa.Hd
