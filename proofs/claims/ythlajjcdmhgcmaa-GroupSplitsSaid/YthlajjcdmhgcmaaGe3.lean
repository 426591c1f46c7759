/- Law 11's awake: what every program answers that is one. -/
import Derived.Laws.BitsLemmas
import Derived.Deep.RegionHeld3
import Derived.Lib.QuietBelow
import Derived.BigQuiet
import Derived.Deep.RegionLaw
import Derived.Test.YthlajjcdmhgcmaaRows
import Derived.WalkKit
import Derived.ProofKit
import Derived.OpenShut
import Derived.ShutString
import Derived.ChangeOld
import Derived.Below
import Derived.SizedLaws
import Derived.Test.YthlajjcdmhgcmaaProg
import Derived.Deep.Draws
import Derived.Deep.AppendLies
import Derived.Maps.AppendAt
import Derived.OwnWalk
import Derived.Laws.BytesArg
import Derived.Laws.MakeOwn
import Derived.Laws.OwnMore
import Derived.Deep.OwnRows
import Derived.Tactics
import Derived.Lib.ConvBytes
import Derived.Laws.Slices
import Derived.KernelRfl
import Derived.RowKit3
import Derived.Deep.LoopGhost
import Derived.Deep.QuietTactic
import Derived.WideLaws
import Derived.Deep.DeepCutAuto
import Derived.Deep.CutBlock
import Derived.Laws.Rows
import Derived.Lib.AppendStr
import Derived.ArgAppend
import Derived.Laws.IdiomCopy
import Derived.OrdersHeld
import Derived.RowKit
import Derived.Test.YthlajjcdmhgcmaaGe1
import Derived.Test.YthlajjcdmhgcmaaGe2
namespace Go.Proofs.Ythlajjcdmhgcmaa.PAw
open Go.RowKit Go.Proofs.YthlajjcdmhgcmaaW.PrintWords Go.Proofs.YthlajjcdmhgcmaaW.PrintLast Go.Proofs.YthlajjcdmhgcmaaW.PrintMore
attribute [local go_sem] max2_int min2_int max_two min_two max_three min_three max_four min_four   -- for this text's walks alone
set_option linter.unusedVariables false
set_option linter.unusedSimpArgs false

/-! ### wimplelaw0_SameTexts: function 36 -/
def wimplelaw0_SameTexts.l0 : Nat → List ByteArray → List ByteArray → Int → Option (Bool)
  | 0, _, _, _ => none
  | k + 1, x0, x1, x5 => if x5 < (x0.length : Int) then (if 0 ≤ x5 then (if x5 < (x1.length : Int) then (if (rdOf ByteArray.empty x0 x5).toList = (rdOf ByteArray.empty x1 x5).toList then (wimplelaw0_SameTexts.l0 k x0 x1 (wrap64 (x5 + 1))) else (some false)) else (none)) else (none)) else (some true)
def wimplelaw0_SameTexts.f (k : Nat) (l0 : List ByteArray) (l1 : List ByteArray) : Option (Bool) := if (l0.length : Int) = (l1.length : Int) then (wimplelaw0_SameTexts.l0 k l0 l1 0) else (some false)
set_option maxHeartbeats 8000000 in
set_option maxRecDepth 100000 in
theorem wimplelaw0_SameTexts.calls (k : Nat) (A0 : Option Addr) (c0 : Nat) (l0 : List ByteArray) (A1 : Option Addr) (c1 : Nat) (l1 : List ByteArray) (r : Bool) (w : World) (hr0 : Kd.C Kd.string w A0 l0.length l0) (hc0 : l0.length ≤ c0) (hr1 : Kd.C Kd.string w A1 l1.length l1) (hc1 : l1.length ≤ c1) (h : wimplelaw0_SameTexts.f k l0 l1 = some r) :
    Calls Try.prog 36 #[.slice A0 l0.length c0, .slice A1 l1.length c1] w fun e w' => e = .returned (.bool r) ∧ Drawn0 w w' := by
  have HR0 := Aside0.mk hr0
  have HC0 := Aside0.mk hc0
  clear hr0 hc0
  have HR1 := Aside0.mk hr1
  have HC1 := Aside0.mk hc1
  clear hr1 hc1
  have H : (if (l0.length : Int) = (l1.length : Int) then (wimplelaw0_SameTexts.l0 k l0 l1 0) else (some false)) = some r := h
  clear h
  by_cases c3 : (l0.length : Int) = (l1.length : Int)
  · rw [if_pos c3] at H
    have c3b0 : ((l0.length : Int) == (l1.length : Int)) = true := beq_iff_eq.mpr c3
    have c3b1 : ((l0.length : Int) != (l1.length : Int)) = false := bne_eq_false_iff_eq.mpr c3
    have c3b2 : (l0.length == l1.length) = true := by first | simpa using c3 | (simp at c3 ⊢; omega)
    clear c3
    have H' := Aside0.mk H
    clear H
    go_enter Try.func36, Try.ntmps36
    go_wp2
    repeat (go_quiet (fail); try go_wp2)
    go_loopg [5] k (fun kq v5 w' => ∃ (x5_1 : Int), v5 = .int .i64 x5_1 ∧ Aside0 (wimplelaw0_SameTexts.l0 kq l0 l1 x5_1 = some r) ∧ Aside0 (kq ≤ k) ∧ Drawn0 w w')
    case atStart => exact ⟨(0), (by first | rfl | (simp; done) | (simp [*]; done)), H', ⟨Nat.le_refl _⟩, by repeat (first | exact Drawn0.refl _ | apply Drawn0.step)⟩
    case round =>
      clear H'
      try clear c1
      try clear p2
      try clear c3
      try clear c3b0
      try clear c3b1
      try clear c3b2
      obtain ⟨x5_1, rfl, HA, HK1, ⟨m1, rfl⟩⟩ := hrel
      cases gk with
      | zero => exact absurd HA.out (by simp [wimplelaw0_SameTexts.l0])
      | succ k1 =>
        have H := HA.out
        clear HA
        simp only [wimplelaw0_SameTexts.l0] at H
        by_cases c4 : x5_1 < (l0.length : Int)
        · rw [if_pos c4] at H
          have c4b0 : decide (x5_1 < (l0.length : Int)) = true := decide_eq_true c4
          clear c4
          by_cases c5 : 0 ≤ x5_1
          · rw [if_pos c5] at H
            have c5b0 : decide (0 ≤ x5_1) = true := decide_eq_true c5
            clear c5
            by_cases c6 : x5_1 < (l1.length : Int)
            · rw [if_pos c6] at H
              have c6b0 : decide (x5_1 < (l1.length : Int)) = true := decide_eq_true c6
              clear c6
              by_cases c7 : (rdOf ByteArray.empty l0 x5_1).toList = (rdOf ByteArray.empty l1 x5_1).toList
              · rw [if_pos c7] at H
                have c7b0 : ((rdOf ByteArray.empty l0 x5_1).toList == (rdOf ByteArray.empty l1 x5_1).toList) = true := beq_iff_eq.mpr c7
                have c7b1 : ((rdOf ByteArray.empty l0 x5_1).toList != (rdOf ByteArray.empty l1 x5_1).toList) = false := bne_eq_false_iff_eq.mpr c7
                clear c7
                have H' := Aside0.mk H
                clear H
                have p101 : 0 ≤ (x5_1 : Int) := of_decide_eq_true (by first | (with_reducible assumption) | assumption)
                have q101 : x5_1 < (l0.length : Int) := of_decide_eq_true (by first | (with_reducible assumption) | assumption)
                obtain ⟨ad101, e101, hx101_0⟩ := Kd.at_string HR0.out x5_1 p101 q101
                cases e101
                replace p101 := eq_true p101
                replace q101 := eq_true q101
                have p102 : 0 ≤ (x5_1 : Int) := of_decide_eq_true (by first | (with_reducible assumption) | assumption)
                have q102 : x5_1 < (l1.length : Int) := of_decide_eq_true (by first | (with_reducible assumption) | assumption)
                obtain ⟨ad102, e102, hx102_0⟩ := Kd.at_string HR1.out x5_1 p102 q102
                cases e102
                replace p102 := eq_true p102
                replace q102 := eq_true q102
                go_wp2
                repeat (go_quiet (fail); try go_wp2)
                go_roundg k1
                case measure => have := HK1.out; omega
                case rel => exact ⟨(wrap64 (x5_1 + 1)), (by first | rfl | (simp; done) | (simp [*]; done)), H', ⟨by have := HK1.out; omega⟩, by repeat (first | exact Drawn0.refl _ | apply Drawn0.step)⟩
              · rw [if_neg c7] at H
                have c7b0 : ((rdOf ByteArray.empty l0 x5_1).toList == (rdOf ByteArray.empty l1 x5_1).toList) = false := beq_eq_false_iff_ne.mpr c7
                have c7b1 : ((rdOf ByteArray.empty l0 x5_1).toList != (rdOf ByteArray.empty l1 x5_1).toList) = true := bne_iff_ne.mpr c7
                obtain rfl := Option.some.inj H
                have p101 : 0 ≤ (x5_1 : Int) := of_decide_eq_true (by first | (with_reducible assumption) | assumption)
                have q101 : x5_1 < (l0.length : Int) := of_decide_eq_true (by first | (with_reducible assumption) | assumption)
                obtain ⟨ad101, e101, hx101_0⟩ := Kd.at_string HR0.out x5_1 p101 q101
                cases e101
                replace p101 := eq_true p101
                replace q101 := eq_true q101
                have p102 : 0 ≤ (x5_1 : Int) := of_decide_eq_true (by first | (with_reducible assumption) | assumption)
                have q102 : x5_1 < (l1.length : Int) := of_decide_eq_true (by first | (with_reducible assumption) | assumption)
                obtain ⟨ad102, e102, hx102_0⟩ := Kd.at_string HR1.out x5_1 p102 q102
                cases e102
                replace p102 := eq_true p102
                replace q102 := eq_true q102
                go_wp2
                repeat (go_quiet (fail); try go_wp2)
                go_ret
                exact ⟨by first | rfl | (simp; done) | (simp [*]; done), by repeat (first | exact Drawn0.refl _ | apply Drawn0.step)⟩
            · rw [if_neg c6] at H
              exact absurd H (by simp)
          · rw [if_neg c5] at H
            exact absurd H (by simp)
        · rw [if_neg c4] at H
          have c4b0 : decide (x5_1 < (l0.length : Int)) = false := decide_eq_false c4
          clear c4
          obtain rfl := Option.some.inj H
          go_wp2
          repeat (go_quiet (fail); try go_wp2)
          go_ret
          exact ⟨by first | rfl | (simp; done) | (simp [*]; done), by repeat (first | exact Drawn0.refl _ | apply Drawn0.step)⟩
  · rw [if_neg c3] at H
    have c3b0 : ((l0.length : Int) == (l1.length : Int)) = false := beq_eq_false_iff_ne.mpr c3
    have c3b1 : ((l0.length : Int) != (l1.length : Int)) = true := bne_iff_ne.mpr c3
    have c3b2 : (l0.length == l1.length) = false := by first | simpa using c3 | (simp at c3 ⊢; omega)
    obtain rfl := Option.some.inj H
    go_enter Try.func36, Try.ntmps36
    go_wp2
    repeat (go_quiet (fail); try go_wp2)
    go_ret
    exact ⟨by first | rfl | (simp; done) | (simp [*]; done), by repeat (first | exact Drawn0.refl _ | apply Drawn0.step)⟩

/-! ### wimplelaw0_SameSet: function 22 -/
def wimplelaw0_SameSet.f (k : Nat) (a0_0 : ByteArray) (a0_1 : Int) (a0_2 : Int) (l0_3 : List ByteArray) (a1_0 : ByteArray) (a1_1 : Int) (a1_2 : Int) (l1_3 : List ByteArray) : Option (Bool) := if a0_0.toList = a1_0.toList then (if a0_1 = a1_1 then (if a0_2 = a1_2 then ((wimplelaw0_SameTexts.f k l0_3 l1_3).bind fun t105 => (some t105)) else (some false)) else (some false)) else (some false)
set_option maxHeartbeats 8000000 in
set_option maxRecDepth 100000 in
theorem wimplelaw0_SameSet.calls (k : Nat) (a0_0 : ByteArray) (a0_1 : Int) (a0_2 : Int) (A0_3 : Option Addr) (c0_3 : Nat) (l0_3 : List ByteArray) (a1_0 : ByteArray) (a1_1 : Int) (a1_2 : Int) (A1_3 : Option Addr) (c1_3 : Nat) (l1_3 : List ByteArray) (r : Bool) (w : World) (hr0_3 : Kd.C Kd.string w A0_3 l0_3.length l0_3) (hc0_3 : l0_3.length ≤ c0_3) (hr1_3 : Kd.C Kd.string w A1_3 l1_3.length l1_3) (hc1_3 : l1_3.length ≤ c1_3) (h : wimplelaw0_SameSet.f k a0_0 a0_1 a0_2 l0_3 a1_0 a1_1 a1_2 l1_3 = some r) :
    Calls Try.prog 22 #[.agg #[.string a0_0, .int .i64 a0_1, .int .i64 a0_2, .slice A0_3 l0_3.length c0_3], .agg #[.string a1_0, .int .i64 a1_1, .int .i64 a1_2, .slice A1_3 l1_3.length c1_3]] w fun e w' => e = .returned (.bool r) ∧ Below w.heap.size w w' := by
  have hu25 := Try.underlying25
  have HR0_3 := Aside0.mk hr0_3
  have HC0_3 := Aside0.mk hc0_3
  clear hr0_3 hc0_3
  have HR1_3 := Aside0.mk hr1_3
  have HC1_3 := Aside0.mk hc1_3
  clear hr1_3 hc1_3
  have HB := Aside0.mk (Below.refl w.heap.size w)
  have H : (if a0_0.toList = a1_0.toList then (if a0_1 = a1_1 then (if a0_2 = a1_2 then ((wimplelaw0_SameTexts.f k l0_3 l1_3).bind fun t105 => (some t105)) else (some false)) else (some false)) else (some false)) = some r := h
  clear h
  by_cases c3 : a0_0.toList = a1_0.toList
  · rw [if_pos c3] at H
    have c3b0 : (a0_0.toList == a1_0.toList) = true := beq_iff_eq.mpr c3
    have c3b1 : (a0_0.toList != a1_0.toList) = false := bne_eq_false_iff_eq.mpr c3
    clear c3
    by_cases c4 : a0_1 = a1_1
    · rw [if_pos c4] at H
      have c4b0 : (a0_1 == a1_1) = true := beq_iff_eq.mpr c4
      have c4b1 : (a0_1 != a1_1) = false := bne_eq_false_iff_eq.mpr c4
      clear c4
      by_cases c5 : a0_2 = a1_2
      · rw [if_pos c5] at H
        have c5b0 : (a0_2 == a1_2) = true := beq_iff_eq.mpr c5
        have c5b1 : (a0_2 != a1_2) = false := bne_eq_false_iff_eq.mpr c5
        clear c5
        replace H := Option.bind_eq_some_iff.mp H
        obtain ⟨t105, A60, H⟩ := H
        replace H : (some t105) = some r := H
        have A6 := Aside0.mk A60
        clear A60
        obtain rfl := Option.some.inj H
        go_enter Try.func22, Try.ntmps22
        go_wp2_with (first | ((with_reducible refine gate_dst (N := 2) rfl ?_); refine box_event ?hg (N := 2) ?hd (cs := #[.string a0_0, .int .i64 a0_1, .int .i64 a0_2, .slice A0_3 l0_3.length c0_3]) (t := 25) ?hr ?_; (case hd => rfl); (case hg => rfl); (case hr => first | (go_simp; done) | (go_simp; rfl)); intro gb103 hg w7 hbox hb; have n0_ := Aside0.mk (below_step (by repeat (first | (with_reducible first | exact HB.out | apply below_alloc | apply pw_below_drewN | apply below_drew1) | exact HB.out)) hb); have n1_ := Aside0.mk (hbox); have n2_ := Aside0.mk ((by rw [hg]; exact (below_size (by repeat (first | (with_reducible first | exact HB.out | apply below_alloc | apply pw_below_drewN | apply below_drew1) | exact HB.out))) : w.heap.size ≤ gb103)); have n3_ := Aside0.mk ((by rw [hg]; exact (below_size (by repeat (first | (with_reducible first | exact HB.out | apply below_alloc | apply pw_below_drewN | apply below_drew1) | exact HB.out))) : w.heap.size ≤ gb103)); clear HB; have HB := n0_; have BK103 := n1_; have GW103 := n2_; have GE103 := n3_; clear n0_ n1_ n2_ n3_; clear hb hbox hg) | ((with_reducible refine gate_dst (N := 3) rfl ?_); refine box_event ?hg (N := 3) ?hd (cs := #[.string a1_0, .int .i64 a1_1, .int .i64 a1_2, .slice A1_3 l1_3.length c1_3]) (t := 25) ?hr ?_; (case hd => rfl); (case hg => rfl); (case hr => first | (go_simp; done) | (go_simp; rfl)); intro gb104 hg w8 hbox hb; have n0_ := Aside0.mk (blk_below (g := gb103) (o := .cells #[.string a0_0, .int .i64 a0_1, .int .i64 a0_2, .slice A0_3 l0_3.length c0_3] 25 (0, 0)) (by (with_reducible repeat (first | refine blk_drewN ?_ _ | refine blk_drew ?_ | refine blk_alloc ?_ _)); exact BK103.out) hb); have n1_ := Aside0.mk (below_step (by repeat (first | (with_reducible first | exact HB.out | apply below_alloc | apply pw_below_drewN | apply below_drew1 | refine below_set ?_ GE103.out) | exact HB.out)) hb); have n2_ := Aside0.mk (hbox); have n3_ := Aside0.mk ((by rw [hg]; exact (below_size (by repeat (first | (with_reducible first | exact HB.out | apply below_alloc | apply pw_below_drewN | apply below_drew1 | refine below_set ?_ GE103.out) | exact HB.out))) : w.heap.size ≤ gb104)); have n4_ := Aside0.mk ((by rw [hg]; exact (below_size (by repeat (first | (with_reducible first | exact HB.out | apply below_alloc | apply pw_below_drewN | apply below_drew1 | refine below_set ?_ GE103.out) | exact HB.out))) : w.heap.size ≤ gb104)); have n5_ := Aside0.mk ((by rw [hg]; exact Nat.ne_of_lt (blk_lt (g := gb103) (o := .cells #[.string a0_0, .int .i64 a0_1, .int .i64 a0_2, .slice A0_3 l0_3.length c0_3] 25 (0, 0)) (by (with_reducible repeat (first | refine blk_drewN ?_ _ | refine blk_drew ?_ | refine blk_alloc ?_ _)); exact BK103.out)) : gb103 ≠ gb104)); have n6_ := Aside0.mk ((by rw [hg]; exact Nat.ne_of_gt (blk_lt (g := gb103) (o := .cells #[.string a0_0, .int .i64 a0_1, .int .i64 a0_2, .slice A0_3 l0_3.length c0_3] 25 (0, 0)) (by (with_reducible repeat (first | refine blk_drewN ?_ _ | refine blk_drew ?_ | refine blk_alloc ?_ _)); exact BK103.out)) : gb104 ≠ gb103)); clear BK103; clear HB; have BK103 := n0_; have HB := n1_; have BK104 := n2_; have GW104 := n3_; have GE104 := n4_; have NB103_104 := n5_; have NB104_103 := n6_; clear n0_ n1_ n2_ n3_ n4_ n5_ n6_; clear hb hbox hg; have hnb9 := NB103_104.out; have hnc9 := NB104_103.out; have hcz10_0 : w8.cell? ⟨gb103, 0, none⟩ = some (.string a0_0) := (blk_cell BK103.out 0).trans rfl; have hcz10_1 : w8.cell? ⟨gb103, 1, none⟩ = some (.int .i64 a0_1) := (blk_cell BK103.out 1).trans rfl; have hcz10_2 : w8.cell? ⟨gb103, 2, none⟩ = some (.int .i64 a0_2) := (blk_cell BK103.out 2).trans rfl; have hcz10_3 : w8.cell? ⟨gb103, 3, none⟩ = some (.slice A0_3 l0_3.length c0_3) := (blk_cell BK103.out 3).trans rfl; have hfz10_0 := blk_frozen BK103.out 0; have hfz10_1 := blk_frozen BK103.out 1; have hfz10_2 := blk_frozen BK103.out 2; have hfz10_3 := blk_frozen BK103.out 3; have hcz11_0 : w8.cell? ⟨gb104, 0, none⟩ = some (.string a1_0) := (blk_cell BK104.out 0).trans rfl; have hcz11_1 : w8.cell? ⟨gb104, 1, none⟩ = some (.int .i64 a1_1) := (blk_cell BK104.out 1).trans rfl; have hcz11_2 : w8.cell? ⟨gb104, 2, none⟩ = some (.int .i64 a1_2) := (blk_cell BK104.out 2).trans rfl; have hcz11_3 : w8.cell? ⟨gb104, 3, none⟩ = some (.slice A1_3 l1_3.length c1_3) := (blk_cell BK104.out 3).trans rfl; have hfz11_0 := blk_frozen BK104.out 0; have hfz11_1 := blk_frozen BK104.out 1; have hfz11_2 := blk_frozen BK104.out 2; have hfz11_3 := blk_frozen BK104.out 3) | (go_at_call 36; (with_reducible refine (wimplelaw0_SameTexts.calls k _ _ l0_3 _ _ l1_3 t105 _ ?side1 ?side2 ?side3 ?side4 A6.out).mono ?_); (case side1 => repeat (first | exact (Kd.C_below HR0_3.out HB.out) | (with_reducible refine Kd.C_alloc ?_ _) | (with_reducible refine Kd.C_drewN ?_ _) | (with_reducible refine Kd.C_drew ?_))); (case side2 => exact HC0_3.out); (case side3 => repeat (first | exact (Kd.C_below HR1_3.out HB.out) | (with_reducible refine Kd.C_alloc ?_ _) | (with_reducible refine Kd.C_drewN ?_ _) | (with_reducible refine Kd.C_drew ?_))); (case side4 => exact HC1_3.out); rintro e w' ⟨rfl, ⟨nd, rfl⟩⟩))
        go_ret
        exact ⟨by first | rfl | (simp [errW_none, errW_some] <;> rfl) | (simp [*, errW_none, errW_some] <;> rfl), by repeat (first | (with_reducible first | exact HB.out | apply below_alloc | apply pw_below_drewN | apply below_drew1 | refine below_set ?_ GE103.out | refine below_set ?_ GE104.out) | exact HB.out)⟩
      · rw [if_neg c5] at H
        have c5b0 : (a0_2 == a1_2) = false := beq_eq_false_iff_ne.mpr c5
        have c5b1 : (a0_2 != a1_2) = true := bne_iff_ne.mpr c5
        obtain rfl := Option.some.inj H
        go_enter Try.func22, Try.ntmps22
        go_wp2_with (first | ((with_reducible refine gate_dst (N := 2) rfl ?_); refine box_event ?hg (N := 2) ?hd (cs := #[.string a0_0, .int .i64 a0_1, .int .i64 a0_2, .slice A0_3 l0_3.length c0_3]) (t := 25) ?hr ?_; (case hd => rfl); (case hg => rfl); (case hr => first | (go_simp; done) | (go_simp; rfl)); intro gb103 hg w12 hbox hb; have n0_ := Aside0.mk (below_step (by repeat (first | (with_reducible first | exact HB.out | apply below_alloc | apply pw_below_drewN | apply below_drew1) | exact HB.out)) hb); have n1_ := Aside0.mk (hbox); have n2_ := Aside0.mk ((by rw [hg]; exact (below_size (by repeat (first | (with_reducible first | exact HB.out | apply below_alloc | apply pw_below_drewN | apply below_drew1) | exact HB.out))) : w.heap.size ≤ gb103)); have n3_ := Aside0.mk ((by rw [hg]; exact (below_size (by repeat (first | (with_reducible first | exact HB.out | apply below_alloc | apply pw_below_drewN | apply below_drew1) | exact HB.out))) : w.heap.size ≤ gb103)); clear HB; have HB := n0_; have BK103 := n1_; have GW103 := n2_; have GE103 := n3_; clear n0_ n1_ n2_ n3_; clear hb hbox hg) | ((with_reducible refine gate_dst (N := 3) rfl ?_); refine box_event ?hg (N := 3) ?hd (cs := #[.string a1_0, .int .i64 a1_1, .int .i64 a1_2, .slice A1_3 l1_3.length c1_3]) (t := 25) ?hr ?_; (case hd => rfl); (case hg => rfl); (case hr => first | (go_simp; done) | (go_simp; rfl)); intro gb104 hg w13 hbox hb; have n0_ := Aside0.mk (blk_below (g := gb103) (o := .cells #[.string a0_0, .int .i64 a0_1, .int .i64 a0_2, .slice A0_3 l0_3.length c0_3] 25 (0, 0)) (by (with_reducible repeat (first | refine blk_drewN ?_ _ | refine blk_drew ?_ | refine blk_alloc ?_ _)); exact BK103.out) hb); have n1_ := Aside0.mk (below_step (by repeat (first | (with_reducible first | exact HB.out | apply below_alloc | apply pw_below_drewN | apply below_drew1 | refine below_set ?_ GE103.out) | exact HB.out)) hb); have n2_ := Aside0.mk (hbox); have n3_ := Aside0.mk ((by rw [hg]; exact (below_size (by repeat (first | (with_reducible first | exact HB.out | apply below_alloc | apply pw_below_drewN | apply below_drew1 | refine below_set ?_ GE103.out) | exact HB.out))) : w.heap.size ≤ gb104)); have n4_ := Aside0.mk ((by rw [hg]; exact (below_size (by repeat (first | (with_reducible first | exact HB.out | apply below_alloc | apply pw_below_drewN | apply below_drew1 | refine below_set ?_ GE103.out) | exact HB.out))) : w.heap.size ≤ gb104)); have n5_ := Aside0.mk ((by rw [hg]; exact Nat.ne_of_lt (blk_lt (g := gb103) (o := .cells #[.string a0_0, .int .i64 a0_1, .int .i64 a0_2, .slice A0_3 l0_3.length c0_3] 25 (0, 0)) (by (with_reducible repeat (first | refine blk_drewN ?_ _ | refine blk_drew ?_ | refine blk_alloc ?_ _)); exact BK103.out)) : gb103 ≠ gb104)); have n6_ := Aside0.mk ((by rw [hg]; exact Nat.ne_of_gt (blk_lt (g := gb103) (o := .cells #[.string a0_0, .int .i64 a0_1, .int .i64 a0_2, .slice A0_3 l0_3.length c0_3] 25 (0, 0)) (by (with_reducible repeat (first | refine blk_drewN ?_ _ | refine blk_drew ?_ | refine blk_alloc ?_ _)); exact BK103.out)) : gb104 ≠ gb103)); clear BK103; clear HB; have BK103 := n0_; have HB := n1_; have BK104 := n2_; have GW104 := n3_; have GE104 := n4_; have NB103_104 := n5_; have NB104_103 := n6_; clear n0_ n1_ n2_ n3_ n4_ n5_ n6_; clear hb hbox hg; have hnb14 := NB103_104.out; have hnc14 := NB104_103.out; (try clear hcz10_0 hcz10_1 hcz10_2 hcz10_3 hfz10_0 hfz10_1 hfz10_2 hfz10_3); (try clear hcz11_0 hcz11_1 hcz11_2 hcz11_3 hfz11_0 hfz11_1 hfz11_2 hfz11_3); have hcz15_0 : w13.cell? ⟨gb103, 0, none⟩ = some (.string a0_0) := (blk_cell BK103.out 0).trans rfl; have hcz15_1 : w13.cell? ⟨gb103, 1, none⟩ = some (.int .i64 a0_1) := (blk_cell BK103.out 1).trans rfl; have hcz15_2 : w13.cell? ⟨gb103, 2, none⟩ = some (.int .i64 a0_2) := (blk_cell BK103.out 2).trans rfl; have hcz15_3 : w13.cell? ⟨gb103, 3, none⟩ = some (.slice A0_3 l0_3.length c0_3) := (blk_cell BK103.out 3).trans rfl; have hfz15_0 := blk_frozen BK103.out 0; have hfz15_1 := blk_frozen BK103.out 1; have hfz15_2 := blk_frozen BK103.out 2; have hfz15_3 := blk_frozen BK103.out 3; (try clear hcz10_0 hcz10_1 hcz10_2 hcz10_3 hfz10_0 hfz10_1 hfz10_2 hfz10_3); (try clear hcz11_0 hcz11_1 hcz11_2 hcz11_3 hfz11_0 hfz11_1 hfz11_2 hfz11_3); have hcz16_0 : w13.cell? ⟨gb104, 0, none⟩ = some (.string a1_0) := (blk_cell BK104.out 0).trans rfl; have hcz16_1 : w13.cell? ⟨gb104, 1, none⟩ = some (.int .i64 a1_1) := (blk_cell BK104.out 1).trans rfl; have hcz16_2 : w13.cell? ⟨gb104, 2, none⟩ = some (.int .i64 a1_2) := (blk_cell BK104.out 2).trans rfl; have hcz16_3 : w13.cell? ⟨gb104, 3, none⟩ = some (.slice A1_3 l1_3.length c1_3) := (blk_cell BK104.out 3).trans rfl; have hfz16_0 := blk_frozen BK104.out 0; have hfz16_1 := blk_frozen BK104.out 1; have hfz16_2 := blk_frozen BK104.out 2; have hfz16_3 := blk_frozen BK104.out 3))
        go_ret
        exact ⟨by first | rfl | (simp [errW_none, errW_some] <;> rfl) | (simp [*, errW_none, errW_some] <;> rfl), by repeat (first | (with_reducible first | exact HB.out | apply below_alloc | apply pw_below_drewN | apply below_drew1 | refine below_set ?_ GE103.out | refine below_set ?_ GE104.out) | exact HB.out)⟩
    · rw [if_neg c4] at H
      have c4b0 : (a0_1 == a1_1) = false := beq_eq_false_iff_ne.mpr c4
      have c4b1 : (a0_1 != a1_1) = true := bne_iff_ne.mpr c4
      obtain rfl := Option.some.inj H
      go_enter Try.func22, Try.ntmps22
      go_wp2_with (first | ((with_reducible refine gate_dst (N := 2) rfl ?_); refine box_event ?hg (N := 2) ?hd (cs := #[.string a0_0, .int .i64 a0_1, .int .i64 a0_2, .slice A0_3 l0_3.length c0_3]) (t := 25) ?hr ?_; (case hd => rfl); (case hg => rfl); (case hr => first | (go_simp; done) | (go_simp; rfl)); intro gb103 hg w17 hbox hb; have n0_ := Aside0.mk (below_step (by repeat (first | (with_reducible first | exact HB.out | apply below_alloc | apply pw_below_drewN | apply below_drew1) | exact HB.out)) hb); have n1_ := Aside0.mk (hbox); have n2_ := Aside0.mk ((by rw [hg]; exact (below_size (by repeat (first | (with_reducible first | exact HB.out | apply below_alloc | apply pw_below_drewN | apply below_drew1) | exact HB.out))) : w.heap.size ≤ gb103)); have n3_ := Aside0.mk ((by rw [hg]; exact (below_size (by repeat (first | (with_reducible first | exact HB.out | apply below_alloc | apply pw_below_drewN | apply below_drew1) | exact HB.out))) : w.heap.size ≤ gb103)); clear HB; have HB := n0_; have BK103 := n1_; have GW103 := n2_; have GE103 := n3_; clear n0_ n1_ n2_ n3_; clear hb hbox hg) | ((with_reducible refine gate_dst (N := 3) rfl ?_); refine box_event ?hg (N := 3) ?hd (cs := #[.string a1_0, .int .i64 a1_1, .int .i64 a1_2, .slice A1_3 l1_3.length c1_3]) (t := 25) ?hr ?_; (case hd => rfl); (case hg => rfl); (case hr => first | (go_simp; done) | (go_simp; rfl)); intro gb104 hg w18 hbox hb; have n0_ := Aside0.mk (blk_below (g := gb103) (o := .cells #[.string a0_0, .int .i64 a0_1, .int .i64 a0_2, .slice A0_3 l0_3.length c0_3] 25 (0, 0)) (by (with_reducible repeat (first | refine blk_drewN ?_ _ | refine blk_drew ?_ | refine blk_alloc ?_ _)); exact BK103.out) hb); have n1_ := Aside0.mk (below_step (by repeat (first | (with_reducible first | exact HB.out | apply below_alloc | apply pw_below_drewN | apply below_drew1 | refine below_set ?_ GE103.out) | exact HB.out)) hb); have n2_ := Aside0.mk (hbox); have n3_ := Aside0.mk ((by rw [hg]; exact (below_size (by repeat (first | (with_reducible first | exact HB.out | apply below_alloc | apply pw_below_drewN | apply below_drew1 | refine below_set ?_ GE103.out) | exact HB.out))) : w.heap.size ≤ gb104)); have n4_ := Aside0.mk ((by rw [hg]; exact (below_size (by repeat (first | (with_reducible first | exact HB.out | apply below_alloc | apply pw_below_drewN | apply below_drew1 | refine below_set ?_ GE103.out) | exact HB.out))) : w.heap.size ≤ gb104)); have n5_ := Aside0.mk ((by rw [hg]; exact Nat.ne_of_lt (blk_lt (g := gb103) (o := .cells #[.string a0_0, .int .i64 a0_1, .int .i64 a0_2, .slice A0_3 l0_3.length c0_3] 25 (0, 0)) (by (with_reducible repeat (first | refine blk_drewN ?_ _ | refine blk_drew ?_ | refine blk_alloc ?_ _)); exact BK103.out)) : gb103 ≠ gb104)); have n6_ := Aside0.mk ((by rw [hg]; exact Nat.ne_of_gt (blk_lt (g := gb103) (o := .cells #[.string a0_0, .int .i64 a0_1, .int .i64 a0_2, .slice A0_3 l0_3.length c0_3] 25 (0, 0)) (by (with_reducible repeat (first | refine blk_drewN ?_ _ | refine blk_drew ?_ | refine blk_alloc ?_ _)); exact BK103.out)) : gb104 ≠ gb103)); clear BK103; clear HB; have BK103 := n0_; have HB := n1_; have BK104 := n2_; have GW104 := n3_; have GE104 := n4_; have NB103_104 := n5_; have NB104_103 := n6_; clear n0_ n1_ n2_ n3_ n4_ n5_ n6_; clear hb hbox hg; have hnb19 := NB103_104.out; have hnc19 := NB104_103.out; (try clear hcz10_0 hcz10_1 hcz10_2 hcz10_3 hfz10_0 hfz10_1 hfz10_2 hfz10_3); (try clear hcz11_0 hcz11_1 hcz11_2 hcz11_3 hfz11_0 hfz11_1 hfz11_2 hfz11_3); (try clear hcz15_0 hcz15_1 hcz15_2 hcz15_3 hfz15_0 hfz15_1 hfz15_2 hfz15_3); (try clear hcz16_0 hcz16_1 hcz16_2 hcz16_3 hfz16_0 hfz16_1 hfz16_2 hfz16_3); have hcz20_0 : w18.cell? ⟨gb103, 0, none⟩ = some (.string a0_0) := (blk_cell BK103.out 0).trans rfl; have hcz20_1 : w18.cell? ⟨gb103, 1, none⟩ = some (.int .i64 a0_1) := (blk_cell BK103.out 1).trans rfl; have hcz20_2 : w18.cell? ⟨gb103, 2, none⟩ = some (.int .i64 a0_2) := (blk_cell BK103.out 2).trans rfl; have hcz20_3 : w18.cell? ⟨gb103, 3, none⟩ = some (.slice A0_3 l0_3.length c0_3) := (blk_cell BK103.out 3).trans rfl; have hfz20_0 := blk_frozen BK103.out 0; have hfz20_1 := blk_frozen BK103.out 1; have hfz20_2 := blk_frozen BK103.out 2; have hfz20_3 := blk_frozen BK103.out 3; (try clear hcz10_0 hcz10_1 hcz10_2 hcz10_3 hfz10_0 hfz10_1 hfz10_2 hfz10_3); (try clear hcz11_0 hcz11_1 hcz11_2 hcz11_3 hfz11_0 hfz11_1 hfz11_2 hfz11_3); (try clear hcz15_0 hcz15_1 hcz15_2 hcz15_3 hfz15_0 hfz15_1 hfz15_2 hfz15_3); (try clear hcz16_0 hcz16_1 hcz16_2 hcz16_3 hfz16_0 hfz16_1 hfz16_2 hfz16_3); have hcz21_0 : w18.cell? ⟨gb104, 0, none⟩ = some (.string a1_0) := (blk_cell BK104.out 0).trans rfl; have hcz21_1 : w18.cell? ⟨gb104, 1, none⟩ = some (.int .i64 a1_1) := (blk_cell BK104.out 1).trans rfl; have hcz21_2 : w18.cell? ⟨gb104, 2, none⟩ = some (.int .i64 a1_2) := (blk_cell BK104.out 2).trans rfl; have hcz21_3 : w18.cell? ⟨gb104, 3, none⟩ = some (.slice A1_3 l1_3.length c1_3) := (blk_cell BK104.out 3).trans rfl; have hfz21_0 := blk_frozen BK104.out 0; have hfz21_1 := blk_frozen BK104.out 1; have hfz21_2 := blk_frozen BK104.out 2; have hfz21_3 := blk_frozen BK104.out 3))
      go_ret
      exact ⟨by first | rfl | (simp [errW_none, errW_some] <;> rfl) | (simp [*, errW_none, errW_some] <;> rfl), by repeat (first | (with_reducible first | exact HB.out | apply below_alloc | apply pw_below_drewN | apply below_drew1 | refine below_set ?_ GE103.out | refine below_set ?_ GE104.out) | exact HB.out)⟩
  · rw [if_neg c3] at H
    have c3b0 : (a0_0.toList == a1_0.toList) = false := beq_eq_false_iff_ne.mpr c3
    have c3b1 : (a0_0.toList != a1_0.toList) = true := bne_iff_ne.mpr c3
    obtain rfl := Option.some.inj H
    go_enter Try.func22, Try.ntmps22
    go_wp2_with (first | ((with_reducible refine gate_dst (N := 2) rfl ?_); refine box_event ?hg (N := 2) ?hd (cs := #[.string a0_0, .int .i64 a0_1, .int .i64 a0_2, .slice A0_3 l0_3.length c0_3]) (t := 25) ?hr ?_; (case hd => rfl); (case hg => rfl); (case hr => first | (go_simp; done) | (go_simp; rfl)); intro gb103 hg w22 hbox hb; have n0_ := Aside0.mk (below_step (by repeat (first | (with_reducible first | exact HB.out | apply below_alloc | apply pw_below_drewN | apply below_drew1) | exact HB.out)) hb); have n1_ := Aside0.mk (hbox); have n2_ := Aside0.mk ((by rw [hg]; exact (below_size (by repeat (first | (with_reducible first | exact HB.out | apply below_alloc | apply pw_below_drewN | apply below_drew1) | exact HB.out))) : w.heap.size ≤ gb103)); have n3_ := Aside0.mk ((by rw [hg]; exact (below_size (by repeat (first | (with_reducible first | exact HB.out | apply below_alloc | apply pw_below_drewN | apply below_drew1) | exact HB.out))) : w.heap.size ≤ gb103)); clear HB; have HB := n0_; have BK103 := n1_; have GW103 := n2_; have GE103 := n3_; clear n0_ n1_ n2_ n3_; clear hb hbox hg) | ((with_reducible refine gate_dst (N := 3) rfl ?_); refine box_event ?hg (N := 3) ?hd (cs := #[.string a1_0, .int .i64 a1_1, .int .i64 a1_2, .slice A1_3 l1_3.length c1_3]) (t := 25) ?hr ?_; (case hd => rfl); (case hg => rfl); (case hr => first | (go_simp; done) | (go_simp; rfl)); intro gb104 hg w23 hbox hb; have n0_ := Aside0.mk (blk_below (g := gb103) (o := .cells #[.string a0_0, .int .i64 a0_1, .int .i64 a0_2, .slice A0_3 l0_3.length c0_3] 25 (0, 0)) (by (with_reducible repeat (first | refine blk_drewN ?_ _ | refine blk_drew ?_ | refine blk_alloc ?_ _)); exact BK103.out) hb); have n1_ := Aside0.mk (below_step (by repeat (first | (with_reducible first | exact HB.out | apply below_alloc | apply pw_below_drewN | apply below_drew1 | refine below_set ?_ GE103.out) | exact HB.out)) hb); have n2_ := Aside0.mk (hbox); have n3_ := Aside0.mk ((by rw [hg]; exact (below_size (by repeat (first | (with_reducible first | exact HB.out | apply below_alloc | apply pw_below_drewN | apply below_drew1 | refine below_set ?_ GE103.out) | exact HB.out))) : w.heap.size ≤ gb104)); have n4_ := Aside0.mk ((by rw [hg]; exact (below_size (by repeat (first | (with_reducible first | exact HB.out | apply below_alloc | apply pw_below_drewN | apply below_drew1 | refine below_set ?_ GE103.out) | exact HB.out))) : w.heap.size ≤ gb104)); have n5_ := Aside0.mk ((by rw [hg]; exact Nat.ne_of_lt (blk_lt (g := gb103) (o := .cells #[.string a0_0, .int .i64 a0_1, .int .i64 a0_2, .slice A0_3 l0_3.length c0_3] 25 (0, 0)) (by (with_reducible repeat (first | refine blk_drewN ?_ _ | refine blk_drew ?_ | refine blk_alloc ?_ _)); exact BK103.out)) : gb103 ≠ gb104)); have n6_ := Aside0.mk ((by rw [hg]; exact Nat.ne_of_gt (blk_lt (g := gb103) (o := .cells #[.string a0_0, .int .i64 a0_1, .int .i64 a0_2, .slice A0_3 l0_3.length c0_3] 25 (0, 0)) (by (with_reducible repeat (first | refine blk_drewN ?_ _ | refine blk_drew ?_ | refine blk_alloc ?_ _)); exact BK103.out)) : gb104 ≠ gb103)); clear BK103; clear HB; have BK103 := n0_; have HB := n1_; have BK104 := n2_; have GW104 := n3_; have GE104 := n4_; have NB103_104 := n5_; have NB104_103 := n6_; clear n0_ n1_ n2_ n3_ n4_ n5_ n6_; clear hb hbox hg; have hnb24 := NB103_104.out; have hnc24 := NB104_103.out; (try clear hcz10_0 hcz10_1 hcz10_2 hcz10_3 hfz10_0 hfz10_1 hfz10_2 hfz10_3); (try clear hcz11_0 hcz11_1 hcz11_2 hcz11_3 hfz11_0 hfz11_1 hfz11_2 hfz11_3); (try clear hcz15_0 hcz15_1 hcz15_2 hcz15_3 hfz15_0 hfz15_1 hfz15_2 hfz15_3); (try clear hcz16_0 hcz16_1 hcz16_2 hcz16_3 hfz16_0 hfz16_1 hfz16_2 hfz16_3); (try clear hcz20_0 hcz20_1 hcz20_2 hcz20_3 hfz20_0 hfz20_1 hfz20_2 hfz20_3); (try clear hcz21_0 hcz21_1 hcz21_2 hcz21_3 hfz21_0 hfz21_1 hfz21_2 hfz21_3); have hcz25_0 : w23.cell? ⟨gb103, 0, none⟩ = some (.string a0_0) := (blk_cell BK103.out 0).trans rfl; have hcz25_1 : w23.cell? ⟨gb103, 1, none⟩ = some (.int .i64 a0_1) := (blk_cell BK103.out 1).trans rfl; have hcz25_2 : w23.cell? ⟨gb103, 2, none⟩ = some (.int .i64 a0_2) := (blk_cell BK103.out 2).trans rfl; have hcz25_3 : w23.cell? ⟨gb103, 3, none⟩ = some (.slice A0_3 l0_3.length c0_3) := (blk_cell BK103.out 3).trans rfl; have hfz25_0 := blk_frozen BK103.out 0; have hfz25_1 := blk_frozen BK103.out 1; have hfz25_2 := blk_frozen BK103.out 2; have hfz25_3 := blk_frozen BK103.out 3; (try clear hcz11_0 hcz11_1 hcz11_2 hcz11_3 hfz11_0 hfz11_1 hfz11_2 hfz11_3); (try clear hcz15_0 hcz15_1 hcz15_2 hcz15_3 hfz15_0 hfz15_1 hfz15_2 hfz15_3); (try clear hcz16_0 hcz16_1 hcz16_2 hcz16_3 hfz16_0 hfz16_1 hfz16_2 hfz16_3); (try clear hcz20_0 hcz20_1 hcz20_2 hcz20_3 hfz20_0 hfz20_1 hfz20_2 hfz20_3); (try clear hcz21_0 hcz21_1 hcz21_2 hcz21_3 hfz21_0 hfz21_1 hfz21_2 hfz21_3); have hcz26_0 : w23.cell? ⟨gb104, 0, none⟩ = some (.string a1_0) := (blk_cell BK104.out 0).trans rfl; have hcz26_1 : w23.cell? ⟨gb104, 1, none⟩ = some (.int .i64 a1_1) := (blk_cell BK104.out 1).trans rfl; have hcz26_2 : w23.cell? ⟨gb104, 2, none⟩ = some (.int .i64 a1_2) := (blk_cell BK104.out 2).trans rfl; have hcz26_3 : w23.cell? ⟨gb104, 3, none⟩ = some (.slice A1_3 l1_3.length c1_3) := (blk_cell BK104.out 3).trans rfl; have hfz26_0 := blk_frozen BK104.out 0; have hfz26_1 := blk_frozen BK104.out 1; have hfz26_2 := blk_frozen BK104.out 2; have hfz26_3 := blk_frozen BK104.out 3))
    go_ret
    exact ⟨by first | rfl | (simp [errW_none, errW_some] <;> rfl) | (simp [*, errW_none, errW_some] <;> rfl), by repeat (first | (with_reducible first | exact HB.out | apply below_alloc | apply pw_below_drewN | apply below_drew1 | refine below_set ?_ GE103.out | refine below_set ?_ GE104.out) | exact HB.out)⟩

/-! ### sets_Rrs: function 13 -/
def sets_Rrs.l0 : Nat → List (S43) → List ByteArray → Int → Int → ByteArray → Int → Int → List ByteArray → Option ((List (S43)))
  | 0, _, _, _, _, _, _, _, _ => none
  | k + 1, x3, x7, x8, x9, x110000, x110001, x110002, x110003 => if x9 < x8 then (if 0 ≤ x9 then (if x9 < (x7.length : Int) then (if x3.length < 2513169434916 then (sets_Rrs.l0 k (x3 ++ [(⟨x110000, x110001, 1, x110002, rdOf ByteArray.empty x7 x9⟩ : S43)]) x7 x8 (wrap64 (x9 + 1)) x110000 x110001 x110002 x110003) else (none)) else (none)) else (none)) else (some x3)
def sets_Rrs.f (k : Nat) (a0_0 : ByteArray) (a0_1 : Int) (a0_2 : Int) (l0_3 : List ByteArray) : Option ((List (S43))) := sets_Rrs.l0 k ([] : List (S43)) l0_3 (l0_3.length : Int) 0 a0_0 a0_1 a0_2 l0_3
set_option maxHeartbeats 8000000 in
set_option maxRecDepth 100000 in
theorem sets_Rrs.calls (k : Nat) (a0_0 : ByteArray) (a0_1 : Int) (a0_2 : Int) (A0_3 : Option Addr) (c0_3 : Nat) (l0_3 : List ByteArray) (r : List (S43)) (w : World) (hr0_3 : Kd.C Kd.string w A0_3 l0_3.length l0_3) (hc0_3 : l0_3.length ≤ c0_3) (h : sets_Rrs.f k a0_0 a0_1 a0_2 l0_3 = some r) :
    Calls Try.prog 13 #[.agg #[.string a0_0, .int .i64 a0_1, .int .i64 a0_2, .slice A0_3 l0_3.length c0_3]] w fun e w' => ∃ v0_ : Value, e = .returned (v0_) ∧ Kd.R k43 43 w' w.heap.size (fun _ => True) v0_ r ∧ Below w.heap.size w w' := by
  have hu25 := Try.underlying25
  have hu43 := Try.underlying43
  have HR0_3 := Aside0.mk hr0_3
  have HC0_3 := Aside0.mk hc0_3
  clear hr0_3 hc0_3
  have HB := Aside0.mk (Below.refl w.heap.size w)
  have H : (sets_Rrs.l0 k ([] : List (S43)) l0_3 (l0_3.length : Int) 0 a0_0 a0_1 a0_2 l0_3) = some r := h
  clear h
  have H' := Aside0.mk H
  clear H
  go_enter Try.func13, Try.ntmps13
  go_wp2_with (first | ((with_reducible refine gate_dst (N := 1) rfl ?_); refine box_event ?hg (N := 1) ?hd (cs := #[.string a0_0, .int .i64 a0_1, .int .i64 a0_2, .slice A0_3 l0_3.length c0_3]) (t := 25) ?hr ?_; (case hd => rfl); (case hg => rfl); (case hr => first | (go_simp; done) | (go_simp; rfl)); intro gb109 hg w2 hbox hb; have n0_ := Aside0.mk (below_step (by repeat (first | (with_reducible first | exact HB.out | apply below_alloc | apply pw_below_drewN | apply below_drew1) | exact HB.out)) hb); have n1_ := Aside0.mk (hbox); have n2_ := Aside0.mk ((by rw [hg]; exact (below_size (by repeat (first | (with_reducible first | exact HB.out | apply below_alloc | apply pw_below_drewN | apply below_drew1) | exact HB.out))) : w.heap.size ≤ gb109)); have n3_ := Aside0.mk ((by rw [hg]; exact (below_size (by repeat (first | (with_reducible first | exact HB.out | apply below_alloc | apply pw_below_drewN | apply below_drew1) | exact HB.out))) : w.heap.size ≤ gb109)); clear HB; have HB := n0_; have BK109 := n1_; have GW109 := n2_; have GE109 := n3_; clear n0_ n1_ n2_ n3_; clear hb hbox hg; (try clear hcz15_0 hcz15_1 hcz15_2 hcz15_3 hfz15_0 hfz15_1 hfz15_2 hfz15_3); (try clear hcz16_0 hcz16_1 hcz16_2 hcz16_3 hfz16_0 hfz16_1 hfz16_2 hfz16_3); (try clear hcz20_0 hcz20_1 hcz20_2 hcz20_3 hfz20_0 hfz20_1 hfz20_2 hfz20_3); (try clear hcz21_0 hcz21_1 hcz21_2 hcz21_3 hfz21_0 hfz21_1 hfz21_2 hfz21_3); (try clear hcz25_0 hcz25_1 hcz25_2 hcz25_3 hfz25_0 hfz25_1 hfz25_2 hfz25_3); (try clear hcz26_0 hcz26_1 hcz26_2 hcz26_3 hfz26_0 hfz26_1 hfz26_2 hfz26_3); have hcz3_0 : w2.cell? ⟨gb109, 0, none⟩ = some (.string a0_0) := (blk_cell BK109.out 0).trans rfl; have hcz3_1 : w2.cell? ⟨gb109, 1, none⟩ = some (.int .i64 a0_1) := (blk_cell BK109.out 1).trans rfl; have hcz3_2 : w2.cell? ⟨gb109, 2, none⟩ = some (.int .i64 a0_2) := (blk_cell BK109.out 2).trans rfl; have hcz3_3 : w2.cell? ⟨gb109, 3, none⟩ = some (.slice A0_3 l0_3.length c0_3) := (blk_cell BK109.out 3).trans rfl; have hfz3_0 := blk_frozen BK109.out 0; have hfz3_1 := blk_frozen BK109.out 1; have hfz3_2 := blk_frozen BK109.out 2; have hfz3_3 := blk_frozen BK109.out 3))
  go_loopg [3, 9] k (fun kq v3 v9 w' => ∃ (x3_1 : List (S43)) (x9_1 : Int), v9 = .int .i64 x9_1 ∧ Aside0 (sets_Rrs.l0 kq x3_1 l0_3 (l0_3.length : Int) x9_1 a0_0 a0_1 a0_2 l0_3 = some r) ∧ Aside0 (kq ≤ k) ∧ Aside0 (Kd.R k43 43 w' w.heap.size (fun _ => True) v3 x3_1) ∧ Aside0 (w'.heap[gb109]? = some (.cells #[.string a0_0, .int .i64 a0_1, .int .i64 a0_2, (.slice A0_3 l0_3.length c0_3)] 25 (0, 0))) ∧ Aside0 (Below w.heap.size w w'))
  case atStart => exact ⟨(([] : List (S43))), (0), (by first | rfl | (simp; done) | (simp [*]; done)), H', ⟨Nat.le_refl _⟩, ⟨by first | exact Kd.R_nil _ _ _ _ _ | exact Kd.N_nil _ _ _ _ _ | exact Kd.V_nil _ _ _ _ _ | exact Kd.Q_nil _ _ _ _ _ | exact Kd.S_nil _ _ _ _ _⟩, ⟨by (with_reducible repeat (first | refine blk_drewN ?_ _ | refine blk_drew ?_ | refine blk_alloc ?_ _)); exact BK109.out⟩, ⟨by repeat (first | (with_reducible first | exact HB.out | apply below_alloc | apply pw_below_drewN | apply below_drew1 | refine below_set ?_ GE109.out) | exact HB.out)⟩⟩
  case round =>
    clear H'
    try clear c1
    try clear p2
    try clear hcz15_0
    try clear hcz15_1
    try clear hcz15_2
    try clear hcz15_3
    try clear hcz16_0
    try clear hcz16_1
    try clear hcz16_2
    try clear hcz16_3
    try clear hcz20_0
    try clear hcz20_1
    try clear hcz20_2
    try clear hcz20_3
    try clear hcz21_0
    try clear hcz21_1
    try clear hcz21_2
    try clear hcz21_3
    try clear hcz25_0
    try clear hcz25_1
    try clear hcz25_2
    try clear hcz25_3
    try clear hcz26_0
    try clear hcz26_1
    try clear hcz26_2
    try clear hcz26_3
    try clear hcz3_0
    try clear hcz3_1
    try clear hcz3_2
    try clear hcz3_3
    try clear hfz15_0
    try clear hfz15_1
    try clear hfz15_2
    try clear hfz15_3
    try clear hfz16_0
    try clear hfz16_1
    try clear hfz16_2
    try clear hfz16_3
    try clear hfz20_0
    try clear hfz20_1
    try clear hfz20_2
    try clear hfz20_3
    try clear hfz21_0
    try clear hfz21_1
    try clear hfz21_2
    try clear hfz21_3
    try clear hfz25_0
    try clear hfz25_1
    try clear hfz25_2
    try clear hfz25_3
    try clear hfz26_0
    try clear hfz26_1
    try clear hfz26_2
    try clear hfz26_3
    try clear hfz3_0
    try clear hfz3_1
    try clear hfz3_2
    try clear hfz3_3
    obtain ⟨x3_1, x9_1, rfl, HA, HK1, HO_3, BK109, HB⟩ := hrel
    cases gk with
    | zero => exact absurd HA.out (by simp [sets_Rrs.l0])
    | succ k1 =>
      have H := HA.out
      clear HA
      simp only [sets_Rrs.l0] at H
      by_cases c4 : x9_1 < (l0_3.length : Int)
      · rw [if_pos c4] at H
        have c4b0 : decide (x9_1 < (l0_3.length : Int)) = true := decide_eq_true c4
        clear c4
        by_cases c5 : 0 ≤ x9_1
        · rw [if_pos c5] at H
          have c5b0 : decide (0 ≤ x9_1) = true := decide_eq_true c5
          clear c5
          by_cases c6 : x9_1 < (l0_3.length : Int)
          · rw [if_pos c6] at H
            have c6b0 : decide (x9_1 < (l0_3.length : Int)) = true := decide_eq_true c6
            clear c6
            by_cases c7 : x3_1.length < 2513169434916
            · rw [if_pos c7] at H
              have LMc7 := Aside0.mk c7
              clear c7
              obtain ⟨y111, hy111⟩ : ∃ y_ : List (S43), y_ = (x3_1 ++ [(⟨a0_0, a0_1, 1, a0_2, rdOf ByteArray.empty l0_3 x9_1⟩ : S43)]) := ⟨_, rfl⟩
              replace H : (sets_Rrs.l0 k1 y111 l0_3 (l0_3.length : Int) (wrap64 (x9_1 + 1)) a0_0 a0_1 a0_2 l0_3) = some r := by first | (rw [hy111]; with_reducible exact H) | (have H2_ := (Option.bind_some _ _).symm.trans H; rw [hy111]; with_reducible exact H2_) | (have H2_ := (Option.bind_some _ _).symm.trans H; with_reducible exact H2_) | with_reducible exact H | (rw [hy111]; exact H) | exact H
              have Ny111 := Aside0.mk hy111
              clear hy111
              have H' := Aside0.mk H
              clear H
              have p110 : 0 ≤ (x9_1 : Int) := of_decide_eq_true (by first | (with_reducible assumption) | assumption)
              have q110 : x9_1 < (l0_3.length : Int) := of_decide_eq_true (by first | (with_reducible assumption) | assumption)
              obtain ⟨ad110, e110, hx110_0⟩ := Kd.at_string HR0_3.out x9_1 p110 q110
              cases e110
              replace hx110_0 := (HB.out.cell (World.block_lt_of_cell? w _ hx110_0)).trans hx110_0
              replace p110 := eq_true p110
              replace q110 := eq_true q110
              (try clear hcz16_0 hcz16_1 hcz16_2 hcz16_3 hfz16_0 hfz16_1 hfz16_2 hfz16_3)
              (try clear hcz20_0 hcz20_1 hcz20_2 hcz20_3 hfz20_0 hfz20_1 hfz20_2 hfz20_3)
              (try clear hcz21_0 hcz21_1 hcz21_2 hcz21_3 hfz21_0 hfz21_1 hfz21_2 hfz21_3)
              (try clear hcz25_0 hcz25_1 hcz25_2 hcz25_3 hfz25_0 hfz25_1 hfz25_2 hfz25_3)
              (try clear hcz26_0 hcz26_1 hcz26_2 hcz26_3 hfz26_0 hfz26_1 hfz26_2 hfz26_3)
              (try clear hcz3_0 hcz3_1 hcz3_2 hcz3_3 hfz3_0 hfz3_1 hfz3_2 hfz3_3)
              have hcz8_0 : wr.cell? ⟨gb109, 0, none⟩ = some (.string a0_0) := (blk_cell BK109.out 0).trans rfl
              have hcz8_1 : wr.cell? ⟨gb109, 1, none⟩ = some (.int .i64 a0_1) := (blk_cell BK109.out 1).trans rfl
              have hcz8_2 : wr.cell? ⟨gb109, 2, none⟩ = some (.int .i64 a0_2) := (blk_cell BK109.out 2).trans rfl
              have hcz8_3 : wr.cell? ⟨gb109, 3, none⟩ = some (.slice (some ad110) l0_3.length c0_3) := (blk_cell BK109.out 3).trans rfl
              have hfz8_0 := blk_frozen BK109.out 0
              have hfz8_1 := blk_frozen BK109.out 1
              have hfz8_2 := blk_frozen BK109.out 2
              have hfz8_3 := blk_frozen BK109.out 3
              go_wp2_with (first | ((with_reducible refine gate_builtin (b := .append) (xs := #[.tmp 13, .tmp 22]) rfl ?_); at_builtin; refine Kd.R_append k43 (w0 := w) w.heap.size rfl (.tmp 13) (.tmp 22) 22 43 (.agg #[(.string ⟨#[]⟩), (.int .i64 0), (.int .i64 0), (.int .i64 0), (.string ⟨#[]⟩)]) 56 rfl Try.underlying22 info43 rfl (by decide) (by omega) u3 x3_1 (⟨a0_0, a0_1, 1, a0_2, rdOf ByteArray.empty l0_3 x9_1⟩ : S43) [.string a0_0, .int .i64 a0_1, .int .i64 1, .int .i64 a0_2, .string (rdOf ByteArray.empty l0_3 x9_1)] (fun _ => True) (fun _ => False) rfl rfl ?aP (fun _ hk => hk.elim) ?aF ?aO ?aB ?aS ?aL ?_; (case aP => exact k43_mkM _ _ _ (⟨a0_0, a0_1, 1, a0_2, rdOf ByteArray.empty l0_3 x9_1⟩ : S43)); (case aB => exact (by repeat (first | (with_reducible first | exact HB.out | apply below_alloc | apply pw_below_drewN | apply below_drew1 | refine below_set ?_ GE109.out) | exact HB.out))); (case aF => exact (fun _ _ => trivial)); (case aO => exact (by (with_reducible repeat (first | apply Kd.R_alloc | apply Kd.R_drewN | apply Kd.R_drew)); exact HO_3.out)); (case aS => exact (below_size (by repeat (first | (with_reducible first | exact HB.out | apply below_alloc | apply pw_below_drewN | apply below_drew1 | refine below_set ?_ GE109.out) | exact HB.out)))); (case aL => have := LMc7.out; omega); intro v112 w9 ho hb hg hat; rw [← Ny111.out] at ho; have n0_ := Aside0.mk (blk_grown (g := gb109) (o := .cells #[.string a0_0, .int .i64 a0_1, .int .i64 a0_2, .slice (some ad110) l0_3.length c0_3] 25 (0, 0)) (by (with_reducible repeat (first | refine blk_drewN ?_ _ | refine blk_drew ?_ | refine blk_alloc ?_ _)); exact BK109.out) hg (Kd.R_ne HO_3.out BK109.out (by decide))); have n1_ := Aside0.mk (hb); have n2_ := Aside0.mk (ho); clear BK109; clear HB; clear HO_3; have BK109 := n0_; have HB := n1_; have HO113 := n2_; clear n0_ n1_ n2_; clear ho hb hg hat))
              go_roundg k1
              case measure => have := HK1.out; omega
              case rel => exact ⟨(y111), (wrap64 (x9_1 + 1)), (by first | rfl | (simp; done) | (simp [*]; done)), H', ⟨by have := HK1.out; omega⟩, ⟨by (with_reducible repeat (first | apply Kd.R_alloc | apply Kd.R_drewN | apply Kd.R_drew)); exact HO113.out⟩, ⟨by (with_reducible repeat (first | refine blk_drewN ?_ _ | refine blk_drew ?_ | refine blk_alloc ?_ _)); exact BK109.out⟩, ⟨by repeat (first | (with_reducible first | exact HB.out | apply below_alloc | apply pw_below_drewN | apply below_drew1 | refine below_set ?_ GE109.out) | exact HB.out)⟩⟩
            · rw [if_neg c7] at H
              exact absurd H (by simp)
          · rw [if_neg c6] at H
            exact absurd H (by simp)
        · rw [if_neg c5] at H
          exact absurd H (by simp)
      · rw [if_neg c4] at H
        have c4b0 : decide (x9_1 < (l0_3.length : Int)) = false := decide_eq_false c4
        clear c4
        obtain rfl := Option.some.inj H
        go_wp2
        go_ret
        exact ⟨_, by first | rfl | (simp [errW_none, errW_some] <;> rfl) | (simp [*, errW_none, errW_some] <;> rfl), by (with_reducible repeat (first | apply Kd.R_alloc | apply Kd.R_drewN | apply Kd.R_drew)); exact HO_3.out, by repeat (first | (with_reducible first | exact HB.out | apply below_alloc | apply pw_below_drewN | apply below_drew1 | refine below_set ?_ GE109.out) | exact HB.out)⟩

end Go.Proofs.Ythlajjcdmhgcmaa.PAw

namespace Go.Proofs.Ythlajjcdmhgcmaa.Gr
open Go.RowKit Go.PlainAid Go.Proofs.Ythlajjcdmhgcmaa.Base
open Go.Proofs.YthlajjcdmhgcmaaW.PrintWords (Kd blk_cell blk_below blk_put blk_frozen blk_new blk_lt blk_alloc)
set_option linter.unusedVariables false
set_option linter.unusedSimpArgs false
def cellsR (r : Rr) : List Value := [.string r.name, .int .i64 r.type, .int .i64 r.cls, .int .i64 r.ttl, .string r.data]
theorem flatR_at : ∀ (l : List Rr) (i j : Nat) (r : Rr), l[i]? = some r → j < 5 → (l.flatMap cellsR)[i * 5 + j]? = (cellsR r)[j]?
  | [], i, j, r, h, _ => by simp at h
  | x :: l, 0, j, r, h, hj => by
    obtain rfl : x = r := by simpa using h
    rw [List.flatMap_cons, Nat.zero_mul, Nat.zero_add, List.getElem?_append_left (by simpa [cellsR] using hj)]
  | x :: l, i + 1, j, r, h, hj => by
    have hx : (cellsR x).length = 5 := rfl
    rw [List.flatMap_cons, List.getElem?_append_right (by rw [hx]; omega), hx, show (i + 1) * 5 + j - 5 = i * 5 + j by omega, flatR_at l i j r (by simpa using h) hj]
/-- A row of records in a block of its own. -/
theorem rcells_blk {W : World} {g : Nat} {t : TypeId} {cs : Array Value} (l : List Rr) (hc : cs = (l.flatMap cellsR).toArray) (h : W.heap[g]? = some (.cells cs t)) : RCells W (some ⟨g, 0, none⟩) l := by
  subst hc
  refine .inr ⟨_, rfl, fun j hj => ?_⟩
  have e : l[j]? = some (l.getD j zR) := by rw [List.getD_eq_getElem?_getD, List.getElem?_eq_getElem hj]; rfl
  have hb : (Addr.add ⟨g, 0, none⟩ (j * 5)) = ⟨g, j * 5, none⟩ := by
    unfold Addr.add
    by_cases h0 : j * 5 = 0
    · simp [h0]
    · simp [h0]
  have hg : ∀ i, i < 5 → W.cell? ⟨g, j * 5 + i, none⟩ = (cellsR (l.getD j zR))[i]? := fun i hi => by
    rw [blk_cell h, List.getElem?_toArray, flatR_at l j i _ e hi]
  rw [hb]
  exact ⟨(hg 0 (by decide)).trans rfl, (hg 1 (by decide)).trans rfl, (hg 2 (by decide)).trans rfl, (hg 3 (by decide)).trans rfl, (hg 4 (by decide)).trans rfl⟩
def rA : Rr := ⟨⟨#[1, 65, 0]⟩, 1, 1, 9, ⟨#[98, 98, 98, 98]⟩⟩
def rB : Rr := ⟨⟨#[1, 65, 0]⟩, 1, 1, 5, ⟨#[97, 97, 97, 97]⟩⟩
theorem aw0 : fitG [rA, rB, rA] = true ∧ [rA, rB, rA].all okG = true ∧ fitG [zR] = true ∧ [zR].all okG = false := by decide +kernel
theorem aw5 : [rA, rB, rA].foldl stepG [] = [⟨⟨#[1, 97, 0]⟩, 1, 5, [⟨#[98, 98, 98, 98]⟩, ⟨#[97, 97, 97, 97]⟩, ⟨#[98, 98, 98, 98]⟩]⟩] := by kernel_rfl
theorem aw6 : normD [⟨#[98, 98, 98, 98]⟩, ⟨#[97, 97, 97, 97]⟩, ⟨#[98, 98, 98, 98]⟩] = [⟨#[97, 97, 97, 97]⟩, ⟨#[98, 98, 98, 98]⟩] := by
  refine normD_eq ?_ ?_
  · refine List.pairwise_cons.2 ⟨fun x hx => ?_, List.pairwise_singleton _ _⟩
    rw [List.mem_singleton.1 hx]
    decide +kernel
  · intro x
    simp only [List.mem_cons, List.not_mem_nil, or_false]
    constructor
    · rintro (h | h)
      · exact .inr (.inl h)
      · exact .inl h
    · rintro (h | h | h)
      · exact .inr h
      · exact .inl h
      · exact .inr h
theorem aw1 : groupF [rA, rB, rA] = some ([⟨⟨#[1, 97, 0]⟩, 1, 5, [⟨#[97, 97, 97, 97]⟩, ⟨#[98, 98, 98, 98]⟩]⟩], 0) := by
  rw [groupF_of aw0.1, groupV_ok (by decide) aw0.2.1, aw5]
  simp only [List.map_cons, List.map_nil, normP, aw6]
theorem aw2 : groupF [zR] = some ([], 1100) := by rw [groupF_of aw0.2.2.1, groupV_bad (fun h => by rw [aw0.2.2.2] at h; exact absurd h.2 (by decide))]
theorem aw3 : PAw.sets_Rrs.f 4 ⟨#[1, 97, 0]⟩ 1 5 [⟨#[97, 97, 97, 97]⟩] = some [⟨⟨#[1, 97, 0]⟩, 1, 1, 5, ⟨#[97, 97, 97, 97]⟩⟩] := by kernel_rfl
theorem aw4 : PAw.wimplelaw0_SameSet.f 4 ⟨#[1, 97, 0]⟩ 1 5 [⟨#[97, 97, 97, 97]⟩, ⟨#[98, 98, 98, 98]⟩] ⟨#[1, 97, 0]⟩ 1 5 [⟨#[97, 97, 97, 97]⟩, ⟨#[98, 98, 98, 98]⟩] = some true := by kernel_rfl
theorem below_al {w W : World} (h : Below w.heap.size w W) (o : Obj) : Below w.heap.size w (W.alloc o) := h.alloc h.size o
theorem below_up {w W W2 : World} (h : Below w.heap.size w W) (k : Below W.heap.size W W2) : Below w.heap.size w W2 := h.trans (k.mono h.size)
/-- One set, told. -/
theorem one_set {ss : List SV} {n : ByteArray} {t l : Int} {ds : List ByteArray} (h : [(⟨n, t, l, ds⟩ : SP)] = ss.map SV.p) : ∃ dv, ss = [⟨n, t, l, dv, ds⟩] := by
  cases ss with
  | nil => cases h
  | cons s ss =>
    cases ss with
    | cons _ _ => cases h
    | nil =>
      obtain ⟨a, b, c, d, e⟩ := s
      simp only [List.map_cons, List.map_nil, List.cons.injEq, SV.p, SP.mk.injEq, and_true] at h
      obtain ⟨rfl, rfl, rfl, rfl⟩ := h
      exact ⟨d, rfl⟩
theorem numc (x : Int) (w : World) : Calls Try.prog 16 #[.int .i64 x] w fun e w' => e = .returned (.int .i64 x) ∧ w' = w := by
  go_enter Try.func16, Try.ntmps16
  go_wp2_with fail
  go_ret
  exact ⟨rfl, rfl⟩
theorem k_group (w0 W : World) (n : Nat) (hn : W.heap.size = n) (hb : Below w0.heap.size w0 W) : Calls Try.prog 10 #[.slice (some ⟨n, 0, none⟩) 3 3] (W.alloc (.cells #[.string ⟨#[1, 65, 0]⟩, .int .i64 1, .int .i64 1, .int .i64 9, .string ⟨#[98, 98, 98, 98]⟩, .string ⟨#[1, 65, 0]⟩, .int .i64 1, .int .i64 1, .int .i64 5, .string ⟨#[97, 97, 97, 97]⟩, .string ⟨#[1, 65, 0]⟩, .int .i64 1, .int .i64 1, .int .i64 9, .string ⟨#[98, 98, 98, 98]⟩] 43))
    fun e w' => ∃ (base g cap : Nat) (A : Option Addr) (c : Nat), e = .returned (.tuple #[.slice (some ⟨g, 0, none⟩) 1 cap, .int .i64 0]) ∧ Sets w' base (.slice (some ⟨g, 0, none⟩) 1 cap) [⟨⟨#[1, 97, 0]⟩, 1, 5, .slice A 2 c, [⟨#[97, 97, 97, 97]⟩, ⟨#[98, 98, 98, 98]⟩]⟩] ∧ Below w0.heap.size w0 w' := by
  subst hn
  refine (groupc aw1 3 (rcells_blk [rA, rB, rA] (cs := #[.string ⟨#[1, 65, 0]⟩, .int .i64 1, .int .i64 1, .int .i64 9, .string ⟨#[98, 98, 98, 98]⟩, .string ⟨#[1, 65, 0]⟩, .int .i64 1, .int .i64 1, .int .i64 5, .string ⟨#[97, 97, 97, 97]⟩, .string ⟨#[1, 65, 0]⟩, .int .i64 1, .int .i64 1, .int .i64 9, .string ⟨#[98, 98, 98, 98]⟩]) rfl (blk_new W _))).mono ?_
  rintro e w' ⟨v, ss, h1, rfl, h3, h4⟩
  obtain ⟨dv, rfl⟩ := one_set h1
  obtain ⟨A, c, e2⟩ := Sl.own_slice (h3.each _ (List.mem_singleton.2 rfl))
  have e2 : dv = .slice A 2 c := e2
  subst e2
  obtain ⟨g, cap, rfl, _⟩ := h3.block (i := 0) rfl
  exact ⟨_, g, cap, A, c, rfl, h3, below_up (below_al hb _) h4⟩
theorem k_bad (w0 W : World) (n : Nat) (hn : W.heap.size = n) (hb : Below w0.heap.size w0 W) : Calls Try.prog 10 #[.slice (some ⟨n, 0, none⟩) 1 1] (W.alloc (.cells #[.string ⟨#[]⟩, .int .i64 0, .int .i64 0, .int .i64 0, .string ⟨#[]⟩] 43))
    fun e w' => ∃ v, e = .returned (.tuple #[v, .int .i64 1100]) ∧ Below w0.heap.size w0 w' ∧ Below W.heap.size W w' := by
  subst hn
  refine (groupc aw2 1 (rcells_blk [zR] (cs := #[.string ⟨#[]⟩, .int .i64 0, .int .i64 0, .int .i64 0, .string ⟨#[]⟩]) rfl (blk_new W _))).mono ?_
  rintro e w' ⟨v, ss, h1, rfl, h3, h4⟩
  exact ⟨v, rfl, below_up (below_al hb _) h4, below_up (below_al (Below.refl _ _) _) h4⟩
theorem strs_C {w : World} {base : Nat} {dv : Value} {ds : List ByteArray} (h : w.ownsRow base 9 1 dv ds.length (ds.map Value.string)) : ∃ A c, dv = .slice A ds.length c ∧ ds.length ≤ c ∧ Kd.string.C w A ds.length ds :=
  Kd.R_reads (strs_row (ok := fun _ => True) h (fun _ _ => trivial))
theorem strs_blk {W : World} {g : Nat} {t : TypeId} (ds : List ByteArray) {cs : Array Value} (hc : cs = (ds.map Value.string).toArray) (h : W.heap[g]? = some (.cells cs t)) (hl : ds.length ≤ 1000000) : Kd.string.C W (some ⟨g, 0, none⟩) ds.length ds := by
  subst hc
  refine ⟨rfl, by omega, fun _ => ⟨_, rfl, fun j p hj => ⟨[.string p], rfl, rfl, fun i u hu => ?_⟩⟩⟩
  obtain ⟨hi, rfl⟩ := List.getElem?_eq_some_iff.1 hu
  have hi0 : i = 0 := by simpa using hi
  subst hi0
  have e : (Addr.add ⟨g, 0, none⟩ (j * Kd.string.sz + 0)) = ⟨g, j, none⟩ := by
    show Addr.add ⟨g, 0, none⟩ (j * 1 + 0) = _
    unfold Addr.add
    by_cases h0 : j = 0
    · simp [h0]
    · simp [h0]
  rw [e, blk_cell h, List.getElem?_toArray, List.getElem?_map, hj]
  rfl
theorem k_same (w0 W : World) (n base : Nat) (A : Option Addr) (c : Nat) (hn : W.heap.size = n) (hb : Below w0.heap.size w0 W) (ho : W.ownsRow base 9 1 (.slice A 2 c) 2 ([⟨#[97, 97, 97, 97]⟩, ⟨#[98, 98, 98, 98]⟩].map Value.string)) :
    Calls Try.prog 22 #[.agg #[.string ⟨#[1, 97, 0]⟩, .int .i64 1, .int .i64 5, .slice A 2 c], .agg #[.string ⟨#[1, 97, 0]⟩, .int .i64 1, .int .i64 5, .slice (some ⟨n, 0, none⟩) 2 2]] (W.alloc (.cells #[.string ⟨#[97, 97, 97, 97]⟩, .string ⟨#[98, 98, 98, 98]⟩] 9))
      fun e w' => e = .returned (.bool true) ∧ Below w0.heap.size w0 w' ∧ Below W.heap.size W w' := by
  subst hn
  obtain ⟨A', c', e, hc, hC⟩ := strs_C (ds := [⟨#[97, 97, 97, 97]⟩, ⟨#[98, 98, 98, 98]⟩]) (Sl.own_below ho ((Below.refl W.heap.size W).alloc (Nat.le_refl _) (.cells #[.string ⟨#[97, 97, 97, 97]⟩, .string ⟨#[98, 98, 98, 98]⟩] 9)))
  injection e with e1 _ e3
  subst e1 e3
  refine (PAw.wimplelaw0_SameSet.calls 4 _ 1 5 A c _ _ 1 5 (some ⟨W.heap.size, 0, none⟩) 2 _ true _ hC hc (strs_blk [⟨#[97, 97, 97, 97]⟩, ⟨#[98, 98, 98, 98]⟩] (cs := #[.string ⟨#[97, 97, 97, 97]⟩, .string ⟨#[98, 98, 98, 98]⟩]) rfl (blk_new W _) (by decide)) (by decide) aw4).mono ?_
  rintro e w' ⟨rfl, h⟩
  exact ⟨rfl, below_up (below_al hb _) h, below_up (below_al (Below.refl _ _) _) h⟩
def s2r (x : PAw.S43) : Rr := ⟨x.f0, x.f1, x.f2, x.f3, x.f4⟩
theorem k_rrs (w0 W : World) (n : Nat) (hn : W.heap.size = n) (hb : Below w0.heap.size w0 W) : Calls Try.prog 13 #[.agg #[.string ⟨#[1, 97, 0]⟩, .int .i64 1, .int .i64 5, .slice (some ⟨n, 0, none⟩) 1 1]] (W.alloc (.cells #[.string ⟨#[97, 97, 97, 97]⟩] 9))
    fun e w' => ∃ (g cap : Nat), e = .returned (.slice (some ⟨g, 0, none⟩) 1 cap) ∧ AtR w' ⟨g, 0, none⟩ ⟨⟨#[1, 97, 0]⟩, 1, 1, 5, ⟨#[97, 97, 97, 97]⟩⟩ ∧ Below w0.heap.size w0 w' ∧ Below W.heap.size W w' := by
  subst hn
  refine (PAw.sets_Rrs.calls 4 _ 1 5 (some ⟨W.heap.size, 0, none⟩) 1 _ _ _ (strs_blk [⟨#[97, 97, 97, 97]⟩] (cs := #[.string ⟨#[97, 97, 97, 97]⟩]) rfl (blk_new W _) (by decide)) (by decide) aw3).mono ?_
  rintro e w' ⟨v, rfl, hR, h⟩
  obtain ⟨A, c, rfl, hc, hC⟩ := Kd.R_reads hR
  have := rcells_of (f := s2r) (fun hk => PAw.k43_open hk) rfl hC
  rcases this with h0 | ⟨ad, rfl, h0⟩
  · cases h0
  · obtain ⟨g, rfl⟩ := Kd.R_head hR
    exact ⟨g, c, rfl, h0 0 (by decide), below_up (below_al hb _) h, below_up (below_al (Below.refl _ _) _) h⟩
set_option maxHeartbeats 4000000 in
set_option maxRecDepth 100000 in
theorem awake11 (w : World) : Calls Try.prog 21 #[] w fun e w' => e = .returned (.bool true) ∧ Below w.heap.size w w' := by
  have B0 := Below.refl w.heap.size w
  go_enter Try.func21, Try.ntmps21
  go_wp2_with fail
  refine (k_group w _ _ ?hn ?hb).mono ?_
  case hn => simp
  case hb => exact below_al (below_al B0 _) _
  rintro e w1 ⟨base, g, cap, A, c, rfl, hS, B1⟩
  clear B0
  go_wp2_with fail
  refine (k_rrs w _ _ rfl B1).mono ?_
  rintro e w2 ⟨gr, cr, rfl, hA, B2, hb⟩
  replace hS := hS.below hb
  clear hb B1
  go_wp2_with fail
  refine (k_bad w _ _ rfl B2).mono ?_
  rintro e w3 ⟨v3, rfl, B3, hb⟩
  replace hS := hS.below hb
  replace hA := hA.below hb
  clear hb B2
  have c0 := hS.cell (i := 0) rfl (j := 0) (by decide)
  have c1 := hS.cell (i := 0) rfl (j := 1) (by decide)
  have c2 := hS.cell (i := 0) rfl (j := 2) (by decide)
  have c3 := hS.cell (i := 0) rfl (j := 3) (by decide)
  dsimp only [cellsS] at c0 c1 c2 c3
  have ho := hS.each _ (List.mem_singleton.2 rfl)
  go_wp2_with fail
  refine (k_same w _ _ _ _ _ rfl B3 ho).mono ?_
  rintro e w4 ⟨rfl, B4, hb⟩
  obtain ⟨a0, a1, a2, a3, a4⟩ := hA.below hb
  clear c0 c1 c2 c3 ho hS hA hb B3
  dsimp only at a0 a1 a2 a3 a4
  go_wp2_with fail
  refine (numc 0 _).mono ?_
  rintro e w5 ⟨rfl, rfl⟩
  go_wp2_with fail
  refine (numc 1100 _).mono ?_
  rintro e w6 ⟨rfl, rfl⟩
  go_wp2_with fail
  go_ret
  exact ⟨rfl, B4⟩
end Go.Proofs.Ythlajjcdmhgcmaa.Gr

namespace Go.Proofs.Ythlajjcdmhgcmaa.Sp
open Go.RowKit Go.PlainAid Go.Proofs.Ythlajjcdmhgcmaa.Base Go.Proofs.Ythlajjcdmhgcmaa.Gr Go.Proofs.Ythlajjcdmhgcmaa.RE
open Go.Proofs.Ythlajjcdmhgcmaa.Oct (zeros)
open Go.Proofs.YthlajjcdmhgcmaaW.PrintLast (opsOf)
open Go.Proofs.YthlajjcdmhgcmaaW.PrintWords (blk_cell blk_below blk_new blk_lt blk_alloc blk_put blk_frozen blk_grown)
set_option linter.unusedVariables false
set_option linter.unusedSimpArgs false
def namesA : Array Value := #[.string ⟨#[1, 97, 0]⟩, .string ⟨#[1, 65, 0]⟩, .string ⟨#[1, 98, 0]⟩, .string ⟨#[0]⟩]
def tysA : Array Value := #[.int .i64 1, .int .i64 28]
def zcsA : Array Value := #[.int .i64 3, .int .i64 15]
/-- A block of the region's own. -/
def Blk (wr w : World) (b : Nat) (cs : Array Value) (t : TypeId) : Prop := wr.heap.size ≤ b ∧ w.heap[b]? = some (.cells cs t)
def recC (k t d : Nat) : Array Value := #[.string (nm k), .int .i64 (ty t), .int .i64 1, .int .i64 9, .string (dat t d)]
/-- What the operation leaves in its slot. -/
def S13 (wr : World) (A4 : Option Addr) (c4 n gn k t d : Nat) (p : Int) (xs : List Value) (base : Nat) (j : Nat) (v : Value) (w : World) : Prop := match j with
  | 0 => v = .slice A4 n c4
  | 1 => v = .slice (some ⟨gn, 0, none⟩) 4 4
  | 2 => v = .int .i64 k
  | 3 => v = .pointer (some ⟨gn, k, none⟩)
  | 4 => v = .string (nm k)
  | 5 => ∃ b, v = .slice (some ⟨b, 0, none⟩) 2 2 ∧ Blk wr w b tysA 3
  | 6 => v = .int .i64 t
  | 7 => ∃ b, v = .pointer (some ⟨b, t, none⟩) ∧ Blk wr w b tysA 3
  | 8 => v = .int .i64 (ty t)
  | 9 => ∃ b, v = .slice (some ⟨b, 0, none⟩) 2 2 ∧ Blk wr w b zcsA 3
  | 10 => v = .int .i64 t
  | 11 => ∃ b, v = .pointer (some ⟨b, t, none⟩) ∧ Blk wr w b zcsA 3
  | 12 => v = .int .i64 (zc t)
  | 13 => ∃ b, v = .slice (some ⟨b, 0, none⟩) (zc t) (zc t) ∧ Blk wr w b (madeCells #[.int .u8 0] (zc t)) 5
  | 14 => v = .string (zeros (zc t))
  | 15 => v = .int .i64 p
  | 16 => v = .int .i64 (p / 8)
  | 17 => v = .int .i64 d
  | 18 => v = .int .u8 d
  | 19 => ∃ b, v = .slice (some ⟨b, 0, none⟩) 1 1 ∧ Blk wr w b #[.int .u8 d] 5
  | 20 => v = .string (strOfNums [(d : Int)])
  | 21 => v = .string (dat t d)
  | 22 => v = .agg (recC k t d)
  | 23 => ∃ b, v = .slice (some ⟨b, 0, none⟩) 1 1 ∧ Blk wr w b (recC k t d) 43
  | 24 => w.ownsRow base 43 5 v (n + 1) (xs ++ (recC k t d).toList)
  | 25 => w.ownsRow base 43 5 v (n + 1) (xs ++ (recC k t d).toList)
  | _ => True
theorem Blk.below {wr w w' : World} {b : Nat} {cs : Array Value} {t : TypeId} (h : Blk wr w b cs t) (hb : Below w.heap.size w w') : Blk wr w' b cs t := ⟨h.1, blk_below h.2 hb⟩
theorem Blk.grown {wr w w' : World} {b : Nat} {cs : Array Value} {t : TypeId} {rb : Option Nat} (h : Blk wr w b cs t) (hr : ∀ r, rb = some r → r < wr.heap.size) (hg : w.grownBy w' rb) : Blk wr w' b cs t :=
  ⟨h.1, blk_grown h.2 hg (fun e => by have := hr b e.symm; have := h.1; omega)⟩
theorem S13.below {wr : World} {A4 : Option Addr} {c4 n gn k t d : Nat} {p : Int} {xs : List Value} {base : Nat} {v : Value} {w w' : World} (hb : Below w.heap.size w w') : ∀ {j : Nat}, S13 wr A4 c4 n gn k t d p xs base j v w → S13 wr A4 c4 n gn k t d p xs base j v w'
  | 0, h | 1, h | 2, h | 3, h | 4, h | 6, h | 8, h | 10, h | 12, h | 14, h | 15, h | 16, h | 17, h | 18, h | 20, h | 21, h | 22, h => h
  | 5, h | 7, h | 9, h | 11, h | 13, h | 19, h | 23, h => by obtain ⟨b, e, hB⟩ := h; exact ⟨b, e, hB.below hb⟩
  | 24, h | 25, h => Sl.own_below h hb
  | _ + 26, h => trivial
theorem S13.grown {wr : World} {A4 : Option Addr} {c4 n gn k t d : Nat} {p : Int} {xs : List Value} {base : Nat} {v : Value} {w w' : World} {rb : Option Nat} (hr : ∀ r, rb = some r → r < wr.heap.size) (hg : w.grownBy w' rb) : ∀ {j : Nat}, j < 24 → S13 wr A4 c4 n gn k t d p xs base j v w → S13 wr A4 c4 n gn k t d p xs base j v w'
  | 0, _, h | 1, _, h | 2, _, h | 3, _, h | 4, _, h | 6, _, h | 8, _, h | 10, _, h | 12, _, h | 14, _, h | 15, _, h | 16, _, h | 17, _, h | 18, _, h | 20, _, h | 21, _, h | 22, _, h => h
  | 5, _, h | 7, _, h | 9, _, h | 11, _, h | 13, _, h | 19, _, h | 23, _, h => by obtain ⟨b, e, hB⟩ := h; exact ⟨b, e, hB.grown hr hg⟩
  | j + 24, hj, h => by omega
theorem ev {a : Act} {t : Tmp} {v : Value} (h : a.eval (.tmp t) = v) : a.tmps[t]?.getD undef = v := by rw [← Array.getD_eq_getD_getElem?]; exact h
section
variable (a : Act) (w : World) (o : Oper)
theorem r_move {s : Tmp} {v : Value} (hop : o.op = .move (.tmp s)) (h : a.eval (.tmp s) = v) : (execOp a.eval o).run Try.prog w = .ok (.value v) w := by
  unfold execOp; rw [hop]; have := ev h; go_simp
theorem r_assign {s : Tmp} {v : Value} (hop : o.op = .assign (.tmp s)) (h : a.eval (.tmp s) = v) : (execOp a.eval o).run Try.prog w = .ok (.value v) w := by
  unfold execOp; rw [hop]; have := ev h; go_simp
theorem r_idxS {s i : Tmp} {b q m : Nat} (hop : o.op = .indexAddr 23 (.tmp s) (.tmp i)) (h : a.eval (.tmp s) = .slice (some ⟨b, 0, none⟩) m m) (h2 : a.eval (.tmp i) = .int .i64 (q : Int)) (hq : q < m) :
    (execOp a.eval o).run Try.prog w = .ok (.value (.pointer (some ⟨b, q, none⟩))) w := by
  unfold execOp; rw [hop]; have e1 := ev h; have e2 := ev h2
  have e3 : decide ((q : Int) < (m : Int)) = true := by simp; omega
  go_simp
theorem r_idxI {s i : Tmp} {b q m : Nat} (hop : o.op = .indexAddr 49 (.tmp s) (.tmp i)) (h : a.eval (.tmp s) = .slice (some ⟨b, 0, none⟩) m m) (h2 : a.eval (.tmp i) = .int .i64 (q : Int)) (hq : q < m) :
    (execOp a.eval o).run Try.prog w = .ok (.value (.pointer (some ⟨b, q, none⟩))) w := by
  unfold execOp; rw [hop]; have e1 := ev h; have e2 := ev h2
  have e3 : decide ((q : Int) < (m : Int)) = true := by simp; omega
  go_simp
theorem r_loadS {s : Tmp} {b q : Nat} {v : Value} (hop : o.op = .load 9 (.tmp s)) (h : a.eval (.tmp s) = .pointer (some ⟨b, q, none⟩)) (hc : w.cell? ⟨b, q, none⟩ = some v) :
    (execOp a.eval o).run Try.prog w = .ok (.value v) w := by
  unfold execOp; rw [hop]; have e1 := ev h
  go_simp
theorem r_loadI {s : Tmp} {b q : Nat} {v : Value} (hop : o.op = .load 3 (.tmp s)) (h : a.eval (.tmp s) = .pointer (some ⟨b, q, none⟩)) (hc : w.cell? ⟨b, q, none⟩ = some v) :
    (execOp a.eval o).run Try.prog w = .ok (.value v) w := by
  unfold execOp; rw [hop]; have e1 := ev h
  go_simp
theorem r_two {x y : Int} (hop : o.op = .buildSlice 49 2 #[(0, .const (.int .i64 x)), (1, .const (.int .i64 y))]) :
    (execOp a.eval o).run Try.prog w = .ok (.value (.slice (some ⟨w.heap.size, 0, none⟩) 2 2)) (w.alloc (.cells #[.int .i64 x, .int .i64 y] 3)) := by
  unfold execOp; rw [hop]
  go_simp
theorem r_one8 {s : Tmp} {x : Int} (hop : o.op = .buildSlice 55 1 #[(0, .tmp s)]) (h : a.eval (.tmp s) = .int .u8 x) :
    (execOp a.eval o).run Try.prog w = .ok (.value (.slice (some ⟨w.heap.size, 0, none⟩) 1 1)) (w.alloc (.cells #[.int .u8 x] 5)) := by
  unfold execOp; rw [hop]; have e1 := ev h
  go_simp
theorem r_make {s : Tmp} {m : Nat} (hm : m ≤ 100) (hop : o.op = .makeSlice 55 (.tmp s) (.tmp s)) (h : a.eval (.tmp s) = .int .i64 (m : Int)) :
    (execOp a.eval o).run Try.prog w = .ok (.value (.slice (some ⟨w.heap.size, 0, none⟩) m m)) (w.alloc (.cells (madeCells #[.int .u8 0] m) 5)) := by
  unfold execOp; rw [hop]; have e1 := ev h
  have e2 := Oct.make_zeros m (by omega) w
  go_simp
theorem r_convZ {s : Tmp} {m b : Nat} (hop : o.op = .convert 55 9 (.tmp s)) (h : a.eval (.tmp s) = .slice (some ⟨b, 0, none⟩) m m) (hb : w.heap[b]? = some (.cells (madeCells #[.int .u8 0] m) 5)) :
    (execOp a.eval o).run Try.prog w = .ok (.value (.string (zeros m))) w := by
  unfold execOp; rw [hop]; have e1 := ev h
  have e2 : (convert 55 9 (.slice (some ⟨b, 0, none⟩) m m)).run Try.prog w = .ok (.string (zeros m)) w :=
    run_convert_bytes_arg (P := Try.prog) w 55 5 Try.underlying55 Try.underlying5 b 0 m m (List.replicate m 0) (by simp)
      (fun i hi => by
        have h1 : (madeCells #[Value.int .u8 0] m)[i]? = some (.int .u8 0) := by simp [madeCells, hi, Nat.mod_one]
        rw [Nat.zero_add, blk_cell hb, h1]
        simp [List.getD_eq_getElem?_getD, hi]) 9 Try.underlying9
  go_simp
theorem r_conv1 {s : Tmp} {b : Nat} {x : Int} (hop : o.op = .convert 55 9 (.tmp s)) (h : a.eval (.tmp s) = .slice (some ⟨b, 0, none⟩) 1 1) (hb : w.heap[b]? = some (.cells #[.int .u8 x] 5)) :
    (execOp a.eval o).run Try.prog w = .ok (.value (.string (strOfNums [x]))) w := by
  unfold execOp; rw [hop]; have e1 := ev h
  have e2 : (convert 55 9 (.slice (some ⟨b, 0, none⟩) 1 1)).run Try.prog w = .ok (.string (strOfNums [x])) w :=
    run_convert_bytes_arg (P := Try.prog) w 55 5 Try.underlying55 Try.underlying5 b 0 1 1 [x] rfl
      (fun i hi => by obtain rfl : i = 0 := by omega
                      exact (blk_cell hb 0).trans rfl) 9 Try.underlying9
  go_simp
theorem r_shr {s : Tmp} {x : Int} (hop : o.op = .binOp .shr 3 (.tmp s) (.const (.int .u64 3)) 47) (h : a.eval (.tmp s) = .int .i64 x) :
    (execOp a.eval o).run Try.prog w = .ok (.value (.int .i64 (x / 8))) w := by
  unfold execOp; rw [hop]; have e1 := ev h
  go_simp
theorem r_and {s : Tmp} {x : Int} {d : Nat} (hd : Go.bits .and .i64 x 3 = (d : Int)) (hop : o.op = .binOp .and 3 (.tmp s) (.const (.int .i64 3)) 3) (h : a.eval (.tmp s) = .int .i64 x) :
    (execOp a.eval o).run Try.prog w = .ok (.value (.int .i64 (d : Int))) w := by
  unfold execOp; rw [hop]; have e1 := ev h
  go_simp
theorem r_u8 {s : Tmp} {d : Nat} (hd : d < 256) (hop : o.op = .convert 3 5 (.tmp s)) (h : a.eval (.tmp s) = .int .i64 (d : Int)) :
    (execOp a.eval o).run Try.prog w = .ok (.value (.int .u8 (d : Int))) w := by
  unfold execOp; rw [hop]; have e1 := ev h
  have e2 : IntKind.u8.wrap (d : Int) = (d : Int) := by rw [IntKind.wrap_u8]; omega
  go_simp
theorem r_cat {s x : Tmp} {u v : ByteArray} (hz : u.size + v.size ≤ 1000000) (hop : o.op = .binOp .add 9 (.tmp s) (.tmp x) 9) (h : a.eval (.tmp s) = .string u) (h2 : a.eval (.tmp x) = .string v) :
    (execOp a.eval o).run Try.prog w = .ok (.value (.string (u ++ v))) w := by
  unfold execOp; rw [hop]; have e1 := ev h; have e2 := ev h2
  have e3 : ¬ 9223372036854775807 < u.size + v.size := by omega
  go_simp
theorem r_rec {s x y : Tmp} {u v : ByteArray} {q : Int} (hop : o.op = .build 43 #[(0, .tmp s), (1, .tmp x), (2, .const (.int .i64 1)), (3, .const (.int .i64 9)), (4, .tmp y)]) (h : a.eval (.tmp s) = .string u) (h2 : a.eval (.tmp x) = .int .i64 q) (h3 : a.eval (.tmp y) = .string v) :
    (execOp a.eval o).run Try.prog w = .ok (.value (.agg #[.string u, .int .i64 q, .int .i64 1, .int .i64 9, .string v])) w := by
  unfold execOp; rw [hop]; have e1 := ev h; have e2 := ev h2; have e3 := ev h3
  go_simp
theorem r_oneR {s : Tmp} {u v : ByteArray} {q : Int} (hop : o.op = .buildSlice 22 1 #[(0, .tmp s)]) (h : a.eval (.tmp s) = .agg #[.string u, .int .i64 q, .int .i64 1, .int .i64 9, .string v]) :
    (execOp a.eval o).run Try.prog w = .ok (.value (.slice (some ⟨w.heap.size, 0, none⟩) 1 1)) (w.alloc (.cells #[.string u, .int .i64 q, .int .i64 1, .int .i64 9, .string v] 43)) := by
  unfold execOp; rw [hop]; have e1 := ev h
  go_simp
end
-- GENERATED (gen/splits13.py)
def D13 : List Tmp := [43, 44, 45, 46, 47, 48, 49, 50, 51, 52, 53, 54, 55, 56, 57, 58, 59, 60, 61, 62, 63, 64, 65, 66, 67, 4]
theorem i13_0 : ((opsOf Try.f7 13)[0]?).map (fun o => (o.op, o.dst, o.guard, o.type)) = some (.move (.tmp 4), some 43, none, ((opsOf Try.f7 13)[0]?.map (·.type)).getD 0) := by kernel_rfl
theorem i13_1 : ((opsOf Try.f7 13)[1]?).map (fun o => (o.op, o.dst, o.guard, o.type)) = some (.move (.tmp 3), some 44, none, ((opsOf Try.f7 13)[1]?.map (·.type)).getD 0) := by kernel_rfl
theorem i13_2 : ((opsOf Try.f7 13)[2]?).map (fun o => (o.op, o.dst, o.guard, o.type)) = some (.move (.tmp 9), some 45, none, ((opsOf Try.f7 13)[2]?.map (·.type)).getD 0) := by kernel_rfl
theorem i13_3 : ((opsOf Try.f7 13)[3]?).map (fun o => (o.op, o.dst, o.guard, o.type)) = some (.indexAddr 23 (.tmp 44) (.tmp 45), some 46, none, ((opsOf Try.f7 13)[3]?.map (·.type)).getD 0) := by kernel_rfl
theorem n13_3 : (((opsOf Try.f7 13)[3]?).map fun o => ([1, 2] : List Nat).all fun j => o.after.any fun e => e.on == j && Region.binds .any e) = some true := by kernel_rfl
theorem i13_4 : ((opsOf Try.f7 13)[4]?).map (fun o => (o.op, o.dst, o.guard, o.type)) = some (.load 9 (.tmp 46), some 47, none, ((opsOf Try.f7 13)[4]?.map (·.type)).getD 0) := by kernel_rfl
theorem n13_4 : (((opsOf Try.f7 13)[4]?).map fun o => ([3] : List Nat).all fun j => o.after.any fun e => e.on == j && Region.binds .any e) = some true := by kernel_rfl
theorem i13_5 : ((opsOf Try.f7 13)[5]?).map (fun o => (o.op, o.dst, o.guard, o.type)) = some (.buildSlice 49 2 #[(0, .const (.int .i64 1)), (1, .const (.int .i64 28))], some 48, none, ((opsOf Try.f7 13)[5]?.map (·.type)).getD 0) := by kernel_rfl
theorem i13_6 : ((opsOf Try.f7 13)[6]?).map (fun o => (o.op, o.dst, o.guard, o.type)) = some (.move (.tmp 10), some 49, none, ((opsOf Try.f7 13)[6]?.map (·.type)).getD 0) := by kernel_rfl
theorem i13_7 : ((opsOf Try.f7 13)[7]?).map (fun o => (o.op, o.dst, o.guard, o.type)) = some (.indexAddr 49 (.tmp 48) (.tmp 49), some 50, none, ((opsOf Try.f7 13)[7]?.map (·.type)).getD 0) := by kernel_rfl
theorem n13_7 : (((opsOf Try.f7 13)[7]?).map fun o => ([5, 6] : List Nat).all fun j => o.after.any fun e => e.on == j && Region.binds .any e) = some true := by kernel_rfl
theorem i13_8 : ((opsOf Try.f7 13)[8]?).map (fun o => (o.op, o.dst, o.guard, o.type)) = some (.load 3 (.tmp 50), some 51, none, ((opsOf Try.f7 13)[8]?.map (·.type)).getD 0) := by kernel_rfl
theorem n13_8 : (((opsOf Try.f7 13)[8]?).map fun o => ([7] : List Nat).all fun j => o.after.any fun e => e.on == j && Region.binds .any e) = some true := by kernel_rfl
theorem i13_9 : ((opsOf Try.f7 13)[9]?).map (fun o => (o.op, o.dst, o.guard, o.type)) = some (.buildSlice 49 2 #[(0, .const (.int .i64 3)), (1, .const (.int .i64 15))], some 52, none, ((opsOf Try.f7 13)[9]?.map (·.type)).getD 0) := by kernel_rfl
theorem i13_10 : ((opsOf Try.f7 13)[10]?).map (fun o => (o.op, o.dst, o.guard, o.type)) = some (.move (.tmp 10), some 53, none, ((opsOf Try.f7 13)[10]?.map (·.type)).getD 0) := by kernel_rfl
theorem i13_11 : ((opsOf Try.f7 13)[11]?).map (fun o => (o.op, o.dst, o.guard, o.type)) = some (.indexAddr 49 (.tmp 52) (.tmp 53), some 54, none, ((opsOf Try.f7 13)[11]?.map (·.type)).getD 0) := by kernel_rfl
theorem n13_11 : (((opsOf Try.f7 13)[11]?).map fun o => ([9, 10] : List Nat).all fun j => o.after.any fun e => e.on == j && Region.binds .any e) = some true := by kernel_rfl
theorem i13_12 : ((opsOf Try.f7 13)[12]?).map (fun o => (o.op, o.dst, o.guard, o.type)) = some (.load 3 (.tmp 54), some 55, none, ((opsOf Try.f7 13)[12]?.map (·.type)).getD 0) := by kernel_rfl
theorem n13_12 : (((opsOf Try.f7 13)[12]?).map fun o => ([11] : List Nat).all fun j => o.after.any fun e => e.on == j && Region.binds .any e) = some true := by kernel_rfl
theorem i13_13 : ((opsOf Try.f7 13)[13]?).map (fun o => (o.op, o.dst, o.guard, o.type)) = some (.makeSlice 55 (.tmp 55) (.tmp 55), some 56, none, ((opsOf Try.f7 13)[13]?.map (·.type)).getD 0) := by kernel_rfl
theorem n13_13 : (((opsOf Try.f7 13)[13]?).map fun o => ([12] : List Nat).all fun j => o.after.any fun e => e.on == j && Region.binds .any e) = some true := by kernel_rfl
theorem i13_14 : ((opsOf Try.f7 13)[14]?).map (fun o => (o.op, o.dst, o.guard, o.type)) = some (.convert 55 9 (.tmp 56), some 57, none, ((opsOf Try.f7 13)[14]?.map (·.type)).getD 0) := by kernel_rfl
theorem n13_14 : (((opsOf Try.f7 13)[14]?).map fun o => ([13] : List Nat).all fun j => o.after.any fun e => e.on == j && Region.binds .any e) = some true := by kernel_rfl
theorem i13_15 : ((opsOf Try.f7 13)[15]?).map (fun o => (o.op, o.dst, o.guard, o.type)) = some (.move (.tmp 8), some 58, none, ((opsOf Try.f7 13)[15]?.map (·.type)).getD 0) := by kernel_rfl
theorem i13_16 : ((opsOf Try.f7 13)[16]?).map (fun o => (o.op, o.dst, o.guard, o.type)) = some (.binOp .shr 3 (.tmp 58) (.const (.int .u64 3)) 47, some 59, none, ((opsOf Try.f7 13)[16]?.map (·.type)).getD 0) := by kernel_rfl
theorem n13_16 : (((opsOf Try.f7 13)[16]?).map fun o => ([15] : List Nat).all fun j => o.after.any fun e => e.on == j && Region.binds .any e) = some true := by kernel_rfl
theorem i13_17 : ((opsOf Try.f7 13)[17]?).map (fun o => (o.op, o.dst, o.guard, o.type)) = some (.binOp .and 3 (.tmp 59) (.const (.int .i64 3)) 3, some 60, none, ((opsOf Try.f7 13)[17]?.map (·.type)).getD 0) := by kernel_rfl
theorem n13_17 : (((opsOf Try.f7 13)[17]?).map fun o => ([16] : List Nat).all fun j => o.after.any fun e => e.on == j && Region.binds .any e) = some true := by kernel_rfl
theorem i13_18 : ((opsOf Try.f7 13)[18]?).map (fun o => (o.op, o.dst, o.guard, o.type)) = some (.convert 3 5 (.tmp 60), some 61, none, ((opsOf Try.f7 13)[18]?.map (·.type)).getD 0) := by kernel_rfl
theorem n13_18 : (((opsOf Try.f7 13)[18]?).map fun o => ([17] : List Nat).all fun j => o.after.any fun e => e.on == j && Region.binds .any e) = some true := by kernel_rfl
theorem i13_19 : ((opsOf Try.f7 13)[19]?).map (fun o => (o.op, o.dst, o.guard, o.type)) = some (.buildSlice 55 1 #[(0, .tmp 61)], some 62, none, ((opsOf Try.f7 13)[19]?.map (·.type)).getD 0) := by kernel_rfl
theorem n13_19 : (((opsOf Try.f7 13)[19]?).map fun o => ([18] : List Nat).all fun j => o.after.any fun e => e.on == j && Region.binds .any e) = some true := by kernel_rfl
theorem i13_20 : ((opsOf Try.f7 13)[20]?).map (fun o => (o.op, o.dst, o.guard, o.type)) = some (.convert 55 9 (.tmp 62), some 63, none, ((opsOf Try.f7 13)[20]?.map (·.type)).getD 0) := by kernel_rfl
theorem n13_20 : (((opsOf Try.f7 13)[20]?).map fun o => ([19] : List Nat).all fun j => o.after.any fun e => e.on == j && Region.binds .any e) = some true := by kernel_rfl
theorem i13_21 : ((opsOf Try.f7 13)[21]?).map (fun o => (o.op, o.dst, o.guard, o.type)) = some (.binOp .add 9 (.tmp 57) (.tmp 63) 9, some 64, none, ((opsOf Try.f7 13)[21]?.map (·.type)).getD 0) := by kernel_rfl
theorem n13_21 : (((opsOf Try.f7 13)[21]?).map fun o => ([14, 20] : List Nat).all fun j => o.after.any fun e => e.on == j && Region.binds .any e) = some true := by kernel_rfl
theorem i13_22 : ((opsOf Try.f7 13)[22]?).map (fun o => (o.op, o.dst, o.guard, o.type)) = some (.build 43 #[(0, .tmp 47), (1, .tmp 51), (2, .const (.int .i64 1)), (3, .const (.int .i64 9)), (4, .tmp 64)], some 65, none, ((opsOf Try.f7 13)[22]?.map (·.type)).getD 0) := by kernel_rfl
theorem n13_22 : (((opsOf Try.f7 13)[22]?).map fun o => ([4, 8, 21] : List Nat).all fun j => o.after.any fun e => e.on == j && Region.binds .any e) = some true := by kernel_rfl
theorem i13_23 : ((opsOf Try.f7 13)[23]?).map (fun o => (o.op, o.dst, o.guard, o.type)) = some (.buildSlice 22 1 #[(0, .tmp 65)], some 66, none, ((opsOf Try.f7 13)[23]?.map (·.type)).getD 0) := by kernel_rfl
theorem n13_23 : (((opsOf Try.f7 13)[23]?).map fun o => ([22] : List Nat).all fun j => o.after.any fun e => e.on == j && Region.binds .any e) = some true := by kernel_rfl
theorem i13_24 : ((opsOf Try.f7 13)[24]?).map (fun o => (o.op, o.dst, o.guard, o.type)) = some (.call { callee := .builtin .append, args := #[.tmp 43, .tmp 66], argTypes := #[22, 22] }, some 67, none, 22) := by kernel_rfl
theorem n13_24 : (((opsOf Try.f7 13)[24]?).map fun o => ([0, 23] : List Nat).all fun j => o.after.any fun e => e.on == j && Region.binds .any e) = some true := by kernel_rfl
theorem i13_25 : ((opsOf Try.f7 13)[25]?).map (fun o => (o.op, o.dst, o.guard, o.type)) = some (.assign (.tmp 67), some 4, none, ((opsOf Try.f7 13)[25]?.map (·.type)).getD 0) := by kernel_rfl
theorem n13_25 : (((opsOf Try.f7 13)[25]?).map fun o => ([24, 0] : List Nat).all fun j => o.after.any fun e => e.on == j && Region.binds .any e) = some true := by kernel_rfl
theorem sz13 : (opsOf Try.f7 13).size = 26 := by kernel_rfl
theorem back13 : ((List.range (opsOf Try.f7 13).size).all fun i => (((opsOf Try.f7 13)[i]?).map fun o => o.after.all fun e => !Region.binds .any e || decide (e.on < i)).getD true) = true := by kernel_rfl
theorem op_of {i : Nat} {o : Oper} {x : Op} {t : Tmp} {y : TypeId} (ho : (opsOf Try.f7 13)[i]? = some o) (h : ((opsOf Try.f7 13)[i]?).map (fun o => (o.op, o.dst, o.guard, o.type)) = some (x, some t, none, y)) : o.op = x ∧ o.dst = some t ∧ o.guard = none ∧ o.type = y := by
  rw [ho] at h
  simpa using h
theorem nd_of {i : Nat} {o : Oper} {js : List Nat} (ho : (opsOf Try.f7 13)[i]? = some o) (h : (((opsOf Try.f7 13)[i]?).map fun o => js.all fun j => o.after.any fun e => e.on == j && Region.binds .any e) = some true) : (js.all fun j => o.after.any fun e => e.on == j && Region.binds .any e) = true := by
  rw [ho] at h
  simpa using h
section
variable {id : Nat} {a0 : Act} {wr : World} {Q : Exit → Act → World → Prop} {A4 : Option Addr} {c4 n gn k t d : Nat} {p : Int} {xs : List Value} {base : Nat}
/-- What stands at any time within the region. -/
structure J13 (a0 : Act) (wr : World) (A4 : Option Addr) (c4 n gn k t d : Nat) (p : Int) (xs : List Value) (base : Nat) (l : Array Bool) (a : Act) (w : World) : Prop where
  js : JS a0 wr (Value.slice A4 n c4).ownBlock D13 (S13 wr A4 c4 n gn k t d p xs base) l a w
  late : has l 25 → has l 24 ∧ has l 0
  keep : ¬ has l 25 → a.eval (.tmp 4) = .slice A4 n c4
  quiet : ¬ has l 24 → Below wr.heap.size wr w
theorem J13.put {l : Array Bool} {a : Act} {w : World} (h : J13 a0 wr A4 c4 n gn k t d p xs base l a w) {i : Nat} {v : Value} {w' : World} (hi : i < 25) (hl : l.size = 26) (hs : a0.tmps.size = 165) (hun : l.getD i true = false) (hq : i = 24 ∨ Below w.heap.size w w') (hg : w.grownBy w' (Value.slice A4 n c4).ownBlock)
    (hm : ∀ j, j < 26 → has l j → ∀ v, S13 wr A4 c4 n gn k t d p xs base j v w → S13 wr A4 c4 n gn k t d p xs base j v w') (hS : S13 wr A4 c4 n gn k t d p xs base i v w') {x : Tmp} (hx : D13.getD i 0 = x) : J13 a0 wr A4 c4 n gn k t d p xs base (l.setIfInBounds i true) (a.put (some x) v) w' := by
  subst hx
  have hil : i < l.size := by omega
  have hD : ∀ i, i < 25 → D13.getD i 0 < 165 ∧ ¬ 4 = D13.getD i 0 := by decide
  refine ⟨h.js.put (by show i < 26; omega) hil (by unfold D13; decide) (by rw [hs]; exact (hD i hi).1) hg hm hS, fun q => ?_, fun q => ?_, fun q => ?_⟩
  · rcases (has_set hil).1 q with e | e
    · omega
    · exact ⟨(has_set hil).2 (.inr (h.late e).1), (has_set hil).2 (.inr (h.late e).2)⟩
  · rw [get_put _ _ _ _ (by rw [h.js.fr.size, hs]; exact (hD i hi).1), if_neg (hD i hi).2]
    exact h.keep (fun e => q ((has_set hil).2 (.inr e)))
  · have h24 : ¬ has l 24 := fun e => q ((has_set hil).2 (.inr e))
    rcases hq with e | e
    · subst e; exact absurd ((has_set hil).2 (.inl rfl)) q
    · exact (h.quiet h24).trans (e.mono (h.quiet h24).size)
end
section
variable {a0 : Act} {wr : World} {Q : Exit → Act → World → Prop} {A4 : Option Addr} {c4 n gn k t d : Nat} {p : Int} {xs : List Value} {base : Nat}
theorem rb_lt {wr : World} {A4 : Option Addr} {c4 n base : Nat} {xs : List Value} (hown : wr.ownsRow base 43 5 (.slice A4 n c4) n xs) : ∀ r, (Value.slice A4 n c4).ownBlock = some r → r < wr.heap.size := fun r hr => by
  obtain ⟨_, cs, hc⟩ : ∃ x : Nat, ∃ cs, wr.heap[r]? = some (.cells cs 43 (0, 0)) := ⟨0, Go.Proofs.YthlajjcdmhgcmaaW.PrintWords.own_typed hown r hr⟩
  exact blk_lt hc
theorem s13_0 (hk : k < 4) (ht : t < 2) (hd : d < 4) (hb8 : Go.bits .and .i64 (p / 8) 3 = (d : Int)) (hs : a0.tmps.size = 165) (z3 : a0.eval (.tmp 3) = .slice (some ⟨gn, 0, none⟩) 4 4) (z8 : a0.eval (.tmp 8) = .int .i64 p) (z9 : a0.eval (.tmp 9) = .int .i64 (k : Int)) (z10 : a0.eval (.tmp 10) = .int .i64 (t : Int)) (hown : wr.ownsRow base 43 5 (.slice A4 n c4) n xs) (hbase : base ≤ wr.heap.size) (hn : n ≤ 100000) (hnm : wr.heap[gn]? = some (.cells namesA 9)) {l : Array Bool} {a : Act} {w : World} {o : Oper} (ho : (opsOf Try.f7 13)[0]? = some o) (hl : l.size = 26) (hun : l.getD 0 true = false) (hn_ : ∀ e ∈ o.after, Region.binds .any e = true → has l e.on) (H : J13 a0 wr A4 c4 n gn k t d p xs base l a w) {K : Act → World → Prop} (hK : ∀ a w, J13 a0 wr A4 c4 n gn k t d p xs base (l.setIfInBounds 0 true) a w → K a w) :
    if Region.wanted o (yielded (opsOf Try.f7 13) a.tmps) = true then Oper.wp Try.prog o a w K Q else K (a.put o.dst undef) w := by
  obtain ⟨hop, hdst, hgu, hty⟩ := op_of ho i13_0
  have hil : 0 < l.size := by omega
  have h := H.js
  have hkeep := H.keep
  refine step_val hgu hdst (r_move a w o hop (hkeep (fun e => not_has hil hun (H.late e).2))) (hK _ _ (H.put (i := 0) (by decide) hl hs hun (.inr (Below.refl _ _)) ⟨rfl, rfl, rfl, Nat.le_refl _, fun _ _ _ => rfl⟩ (fun j _ _ v hv => hv) ?_ (by rfl)))
  exact rfl
theorem s13_1 (hk : k < 4) (ht : t < 2) (hd : d < 4) (hb8 : Go.bits .and .i64 (p / 8) 3 = (d : Int)) (hs : a0.tmps.size = 165) (z3 : a0.eval (.tmp 3) = .slice (some ⟨gn, 0, none⟩) 4 4) (z8 : a0.eval (.tmp 8) = .int .i64 p) (z9 : a0.eval (.tmp 9) = .int .i64 (k : Int)) (z10 : a0.eval (.tmp 10) = .int .i64 (t : Int)) (hown : wr.ownsRow base 43 5 (.slice A4 n c4) n xs) (hbase : base ≤ wr.heap.size) (hn : n ≤ 100000) (hnm : wr.heap[gn]? = some (.cells namesA 9)) {l : Array Bool} {a : Act} {w : World} {o : Oper} (ho : (opsOf Try.f7 13)[1]? = some o) (hl : l.size = 26) (hun : l.getD 1 true = false) (hn_ : ∀ e ∈ o.after, Region.binds .any e = true → has l e.on) (H : J13 a0 wr A4 c4 n gn k t d p xs base l a w) {K : Act → World → Prop} (hK : ∀ a w, J13 a0 wr A4 c4 n gn k t d p xs base (l.setIfInBounds 1 true) a w → K a w) :
    if Region.wanted o (yielded (opsOf Try.f7 13) a.tmps) = true then Oper.wp Try.prog o a w K Q else K (a.put o.dst undef) w := by
  obtain ⟨hop, hdst, hgu, hty⟩ := op_of ho i13_1
  have hil : 1 < l.size := by omega
  have h := H.js
  have hkeep := H.keep
  refine step_val hgu hdst (r_move a w o hop ((h.fr.get (by decide)).trans z3)) (hK _ _ (H.put (i := 1) (by decide) hl hs hun (.inr (Below.refl _ _)) ⟨rfl, rfl, rfl, Nat.le_refl _, fun _ _ _ => rfl⟩ (fun j _ _ v hv => hv) ?_ (by rfl)))
  exact rfl
theorem s13_2 (hk : k < 4) (ht : t < 2) (hd : d < 4) (hb8 : Go.bits .and .i64 (p / 8) 3 = (d : Int)) (hs : a0.tmps.size = 165) (z3 : a0.eval (.tmp 3) = .slice (some ⟨gn, 0, none⟩) 4 4) (z8 : a0.eval (.tmp 8) = .int .i64 p) (z9 : a0.eval (.tmp 9) = .int .i64 (k : Int)) (z10 : a0.eval (.tmp 10) = .int .i64 (t : Int)) (hown : wr.ownsRow base 43 5 (.slice A4 n c4) n xs) (hbase : base ≤ wr.heap.size) (hn : n ≤ 100000) (hnm : wr.heap[gn]? = some (.cells namesA 9)) {l : Array Bool} {a : Act} {w : World} {o : Oper} (ho : (opsOf Try.f7 13)[2]? = some o) (hl : l.size = 26) (hun : l.getD 2 true = false) (hn_ : ∀ e ∈ o.after, Region.binds .any e = true → has l e.on) (H : J13 a0 wr A4 c4 n gn k t d p xs base l a w) {K : Act → World → Prop} (hK : ∀ a w, J13 a0 wr A4 c4 n gn k t d p xs base (l.setIfInBounds 2 true) a w → K a w) :
    if Region.wanted o (yielded (opsOf Try.f7 13) a.tmps) = true then Oper.wp Try.prog o a w K Q else K (a.put o.dst undef) w := by
  obtain ⟨hop, hdst, hgu, hty⟩ := op_of ho i13_2
  have hil : 2 < l.size := by omega
  have h := H.js
  have hkeep := H.keep
  refine step_val hgu hdst (r_move a w o hop ((h.fr.get (by decide)).trans z9)) (hK _ _ (H.put (i := 2) (by decide) hl hs hun (.inr (Below.refl _ _)) ⟨rfl, rfl, rfl, Nat.le_refl _, fun _ _ _ => rfl⟩ (fun j _ _ v hv => hv) ?_ (by rfl)))
  exact rfl
theorem s13_3 (hk : k < 4) (ht : t < 2) (hd : d < 4) (hb8 : Go.bits .and .i64 (p / 8) 3 = (d : Int)) (hs : a0.tmps.size = 165) (z3 : a0.eval (.tmp 3) = .slice (some ⟨gn, 0, none⟩) 4 4) (z8 : a0.eval (.tmp 8) = .int .i64 p) (z9 : a0.eval (.tmp 9) = .int .i64 (k : Int)) (z10 : a0.eval (.tmp 10) = .int .i64 (t : Int)) (hown : wr.ownsRow base 43 5 (.slice A4 n c4) n xs) (hbase : base ≤ wr.heap.size) (hn : n ≤ 100000) (hnm : wr.heap[gn]? = some (.cells namesA 9)) {l : Array Bool} {a : Act} {w : World} {o : Oper} (ho : (opsOf Try.f7 13)[3]? = some o) (hl : l.size = 26) (hun : l.getD 3 true = false) (hn_ : ∀ e ∈ o.after, Region.binds .any e = true → has l e.on) (H : J13 a0 wr A4 c4 n gn k t d p xs base l a w) {K : Act → World → Prop} (hK : ∀ a w, J13 a0 wr A4 c4 n gn k t d p xs base (l.setIfInBounds 3 true) a w → K a w) :
    if Region.wanted o (yielded (opsOf Try.f7 13) a.tmps) = true then Oper.wp Try.prog o a w K Q else K (a.put o.dst undef) w := by
  obtain ⟨hop, hdst, hgu, hty⟩ := op_of ho i13_3
  have hil : 3 < l.size := by omega
  have h := H.js
  have hkeep := H.keep
  have hnd := need hn_ (nd_of ho n13_3)
  have q1 := h.spec 1 (by decide) (hnd 1 (by decide))
  have q2 := h.spec 2 (by decide) (hnd 2 (by decide))
  refine step_val hgu hdst (r_idxS a w o hop q1 q2 hk) (hK _ _ (H.put (i := 3) (by decide) hl hs hun (.inr (Below.refl _ _)) ⟨rfl, rfl, rfl, Nat.le_refl _, fun _ _ _ => rfl⟩ (fun j _ _ v hv => hv) ?_ (by rfl)))
  exact rfl
theorem s13_4 (hk : k < 4) (ht : t < 2) (hd : d < 4) (hb8 : Go.bits .and .i64 (p / 8) 3 = (d : Int)) (hs : a0.tmps.size = 165) (z3 : a0.eval (.tmp 3) = .slice (some ⟨gn, 0, none⟩) 4 4) (z8 : a0.eval (.tmp 8) = .int .i64 p) (z9 : a0.eval (.tmp 9) = .int .i64 (k : Int)) (z10 : a0.eval (.tmp 10) = .int .i64 (t : Int)) (hown : wr.ownsRow base 43 5 (.slice A4 n c4) n xs) (hbase : base ≤ wr.heap.size) (hn : n ≤ 100000) (hnm : wr.heap[gn]? = some (.cells namesA 9)) {l : Array Bool} {a : Act} {w : World} {o : Oper} (ho : (opsOf Try.f7 13)[4]? = some o) (hl : l.size = 26) (hun : l.getD 4 true = false) (hn_ : ∀ e ∈ o.after, Region.binds .any e = true → has l e.on) (H : J13 a0 wr A4 c4 n gn k t d p xs base l a w) {K : Act → World → Prop} (hK : ∀ a w, J13 a0 wr A4 c4 n gn k t d p xs base (l.setIfInBounds 4 true) a w → K a w) :
    if Region.wanted o (yielded (opsOf Try.f7 13) a.tmps) = true then Oper.wp Try.prog o a w K Q else K (a.put o.dst undef) w := by
  obtain ⟨hop, hdst, hgu, hty⟩ := op_of ho i13_4
  have hil : 4 < l.size := by omega
  have h := H.js
  have hkeep := H.keep
  have hnd := need hn_ (nd_of ho n13_4)
  have q3 := h.spec 3 (by decide) (hnd 3 (by decide))
  have hw : w.heap[gn]? = some (.cells namesA 9) := blk_grown hnm h.grown (own_other hown hnm (by decide))
  have hnmc : w.cell? ⟨gn, k, none⟩ = some (.string (nm k)) := by
    rw [blk_cell hw]
    obtain rfl | rfl | rfl | rfl : k = 0 ∨ k = 1 ∨ k = 2 ∨ k = 3 := by omega
    all_goals rfl
  refine step_val hgu hdst (r_loadS a w o hop q3 hnmc) (hK _ _ (H.put (i := 4) (by decide) hl hs hun (.inr (Below.refl _ _)) ⟨rfl, rfl, rfl, Nat.le_refl _, fun _ _ _ => rfl⟩ (fun j _ _ v hv => hv) ?_ (by rfl)))
  exact rfl
theorem s13_5 (hk : k < 4) (ht : t < 2) (hd : d < 4) (hb8 : Go.bits .and .i64 (p / 8) 3 = (d : Int)) (hs : a0.tmps.size = 165) (z3 : a0.eval (.tmp 3) = .slice (some ⟨gn, 0, none⟩) 4 4) (z8 : a0.eval (.tmp 8) = .int .i64 p) (z9 : a0.eval (.tmp 9) = .int .i64 (k : Int)) (z10 : a0.eval (.tmp 10) = .int .i64 (t : Int)) (hown : wr.ownsRow base 43 5 (.slice A4 n c4) n xs) (hbase : base ≤ wr.heap.size) (hn : n ≤ 100000) (hnm : wr.heap[gn]? = some (.cells namesA 9)) {l : Array Bool} {a : Act} {w : World} {o : Oper} (ho : (opsOf Try.f7 13)[5]? = some o) (hl : l.size = 26) (hun : l.getD 5 true = false) (hn_ : ∀ e ∈ o.after, Region.binds .any e = true → has l e.on) (H : J13 a0 wr A4 c4 n gn k t d p xs base l a w) {K : Act → World → Prop} (hK : ∀ a w, J13 a0 wr A4 c4 n gn k t d p xs base (l.setIfInBounds 5 true) a w → K a w) :
    if Region.wanted o (yielded (opsOf Try.f7 13) a.tmps) = true then Oper.wp Try.prog o a w K Q else K (a.put o.dst undef) w := by
  obtain ⟨hop, hdst, hgu, hty⟩ := op_of ho i13_5
  have hil : 5 < l.size := by omega
  have h := H.js
  have hkeep := H.keep
  refine step_val hgu hdst (r_two a w o hop) (hK _ _ (H.put (i := 5) (by decide) hl hs hun (.inr ((Below.refl _ _).alloc (Nat.le_refl _) _)) (World.grownBy_alloc _ _ _) (fun j _ _ v hv => S13.below ((Below.refl _ _).alloc (Nat.le_refl _) _) hv) ?_ (by rfl)))
  exact ⟨_, rfl, h.grown.size, blk_new _ _⟩
theorem s13_6 (hk : k < 4) (ht : t < 2) (hd : d < 4) (hb8 : Go.bits .and .i64 (p / 8) 3 = (d : Int)) (hs : a0.tmps.size = 165) (z3 : a0.eval (.tmp 3) = .slice (some ⟨gn, 0, none⟩) 4 4) (z8 : a0.eval (.tmp 8) = .int .i64 p) (z9 : a0.eval (.tmp 9) = .int .i64 (k : Int)) (z10 : a0.eval (.tmp 10) = .int .i64 (t : Int)) (hown : wr.ownsRow base 43 5 (.slice A4 n c4) n xs) (hbase : base ≤ wr.heap.size) (hn : n ≤ 100000) (hnm : wr.heap[gn]? = some (.cells namesA 9)) {l : Array Bool} {a : Act} {w : World} {o : Oper} (ho : (opsOf Try.f7 13)[6]? = some o) (hl : l.size = 26) (hun : l.getD 6 true = false) (hn_ : ∀ e ∈ o.after, Region.binds .any e = true → has l e.on) (H : J13 a0 wr A4 c4 n gn k t d p xs base l a w) {K : Act → World → Prop} (hK : ∀ a w, J13 a0 wr A4 c4 n gn k t d p xs base (l.setIfInBounds 6 true) a w → K a w) :
    if Region.wanted o (yielded (opsOf Try.f7 13) a.tmps) = true then Oper.wp Try.prog o a w K Q else K (a.put o.dst undef) w := by
  obtain ⟨hop, hdst, hgu, hty⟩ := op_of ho i13_6
  have hil : 6 < l.size := by omega
  have h := H.js
  have hkeep := H.keep
  refine step_val hgu hdst (r_move a w o hop ((h.fr.get (by decide)).trans z10)) (hK _ _ (H.put (i := 6) (by decide) hl hs hun (.inr (Below.refl _ _)) ⟨rfl, rfl, rfl, Nat.le_refl _, fun _ _ _ => rfl⟩ (fun j _ _ v hv => hv) ?_ (by rfl)))
  exact rfl
theorem s13_7 (hk : k < 4) (ht : t < 2) (hd : d < 4) (hb8 : Go.bits .and .i64 (p / 8) 3 = (d : Int)) (hs : a0.tmps.size = 165) (z3 : a0.eval (.tmp 3) = .slice (some ⟨gn, 0, none⟩) 4 4) (z8 : a0.eval (.tmp 8) = .int .i64 p) (z9 : a0.eval (.tmp 9) = .int .i64 (k : Int)) (z10 : a0.eval (.tmp 10) = .int .i64 (t : Int)) (hown : wr.ownsRow base 43 5 (.slice A4 n c4) n xs) (hbase : base ≤ wr.heap.size) (hn : n ≤ 100000) (hnm : wr.heap[gn]? = some (.cells namesA 9)) {l : Array Bool} {a : Act} {w : World} {o : Oper} (ho : (opsOf Try.f7 13)[7]? = some o) (hl : l.size = 26) (hun : l.getD 7 true = false) (hn_ : ∀ e ∈ o.after, Region.binds .any e = true → has l e.on) (H : J13 a0 wr A4 c4 n gn k t d p xs base l a w) {K : Act → World → Prop} (hK : ∀ a w, J13 a0 wr A4 c4 n gn k t d p xs base (l.setIfInBounds 7 true) a w → K a w) :
    if Region.wanted o (yielded (opsOf Try.f7 13) a.tmps) = true then Oper.wp Try.prog o a w K Q else K (a.put o.dst undef) w := by
  obtain ⟨hop, hdst, hgu, hty⟩ := op_of ho i13_7
  have hil : 7 < l.size := by omega
  have h := H.js
  have hkeep := H.keep
  have hnd := need hn_ (nd_of ho n13_7)
  have q5 := h.spec 5 (by decide) (hnd 5 (by decide))
  have q6 := h.spec 6 (by decide) (hnd 6 (by decide))
  obtain ⟨b, e1, hB⟩ := q5
  refine step_val hgu hdst (r_idxI a w o hop e1 q6 (m := 2) ht) (hK _ _ (H.put (i := 7) (by decide) hl hs hun (.inr (Below.refl _ _)) ⟨rfl, rfl, rfl, Nat.le_refl _, fun _ _ _ => rfl⟩ (fun j _ _ v hv => hv) ?_ (by rfl)))
  exact ⟨b, rfl, hB⟩
theorem s13_8 (hk : k < 4) (ht : t < 2) (hd : d < 4) (hb8 : Go.bits .and .i64 (p / 8) 3 = (d : Int)) (hs : a0.tmps.size = 165) (z3 : a0.eval (.tmp 3) = .slice (some ⟨gn, 0, none⟩) 4 4) (z8 : a0.eval (.tmp 8) = .int .i64 p) (z9 : a0.eval (.tmp 9) = .int .i64 (k : Int)) (z10 : a0.eval (.tmp 10) = .int .i64 (t : Int)) (hown : wr.ownsRow base 43 5 (.slice A4 n c4) n xs) (hbase : base ≤ wr.heap.size) (hn : n ≤ 100000) (hnm : wr.heap[gn]? = some (.cells namesA 9)) {l : Array Bool} {a : Act} {w : World} {o : Oper} (ho : (opsOf Try.f7 13)[8]? = some o) (hl : l.size = 26) (hun : l.getD 8 true = false) (hn_ : ∀ e ∈ o.after, Region.binds .any e = true → has l e.on) (H : J13 a0 wr A4 c4 n gn k t d p xs base l a w) {K : Act → World → Prop} (hK : ∀ a w, J13 a0 wr A4 c4 n gn k t d p xs base (l.setIfInBounds 8 true) a w → K a w) :
    if Region.wanted o (yielded (opsOf Try.f7 13) a.tmps) = true then Oper.wp Try.prog o a w K Q else K (a.put o.dst undef) w := by
  obtain ⟨hop, hdst, hgu, hty⟩ := op_of ho i13_8
  have hil : 8 < l.size := by omega
  have h := H.js
  have hkeep := H.keep
  have hnd := need hn_ (nd_of ho n13_8)
  have q7 := h.spec 7 (by decide) (hnd 7 (by decide))
  obtain ⟨b, e1, hB⟩ := q7
  have hc : w.cell? ⟨b, t, none⟩ = some (.int .i64 (ty t)) := by
    rw [blk_cell hB.2]
    obtain rfl | rfl : t = 0 ∨ t = 1 := by omega
    all_goals rfl
  refine step_val hgu hdst (r_loadI a w o hop e1 hc) (hK _ _ (H.put (i := 8) (by decide) hl hs hun (.inr (Below.refl _ _)) ⟨rfl, rfl, rfl, Nat.le_refl _, fun _ _ _ => rfl⟩ (fun j _ _ v hv => hv) ?_ (by rfl)))
  exact rfl
theorem s13_9 (hk : k < 4) (ht : t < 2) (hd : d < 4) (hb8 : Go.bits .and .i64 (p / 8) 3 = (d : Int)) (hs : a0.tmps.size = 165) (z3 : a0.eval (.tmp 3) = .slice (some ⟨gn, 0, none⟩) 4 4) (z8 : a0.eval (.tmp 8) = .int .i64 p) (z9 : a0.eval (.tmp 9) = .int .i64 (k : Int)) (z10 : a0.eval (.tmp 10) = .int .i64 (t : Int)) (hown : wr.ownsRow base 43 5 (.slice A4 n c4) n xs) (hbase : base ≤ wr.heap.size) (hn : n ≤ 100000) (hnm : wr.heap[gn]? = some (.cells namesA 9)) {l : Array Bool} {a : Act} {w : World} {o : Oper} (ho : (opsOf Try.f7 13)[9]? = some o) (hl : l.size = 26) (hun : l.getD 9 true = false) (hn_ : ∀ e ∈ o.after, Region.binds .any e = true → has l e.on) (H : J13 a0 wr A4 c4 n gn k t d p xs base l a w) {K : Act → World → Prop} (hK : ∀ a w, J13 a0 wr A4 c4 n gn k t d p xs base (l.setIfInBounds 9 true) a w → K a w) :
    if Region.wanted o (yielded (opsOf Try.f7 13) a.tmps) = true then Oper.wp Try.prog o a w K Q else K (a.put o.dst undef) w := by
  obtain ⟨hop, hdst, hgu, hty⟩ := op_of ho i13_9
  have hil : 9 < l.size := by omega
  have h := H.js
  have hkeep := H.keep
  refine step_val hgu hdst (r_two a w o hop) (hK _ _ (H.put (i := 9) (by decide) hl hs hun (.inr ((Below.refl _ _).alloc (Nat.le_refl _) _)) (World.grownBy_alloc _ _ _) (fun j _ _ v hv => S13.below ((Below.refl _ _).alloc (Nat.le_refl _) _) hv) ?_ (by rfl)))
  exact ⟨_, rfl, h.grown.size, blk_new _ _⟩
theorem s13_10 (hk : k < 4) (ht : t < 2) (hd : d < 4) (hb8 : Go.bits .and .i64 (p / 8) 3 = (d : Int)) (hs : a0.tmps.size = 165) (z3 : a0.eval (.tmp 3) = .slice (some ⟨gn, 0, none⟩) 4 4) (z8 : a0.eval (.tmp 8) = .int .i64 p) (z9 : a0.eval (.tmp 9) = .int .i64 (k : Int)) (z10 : a0.eval (.tmp 10) = .int .i64 (t : Int)) (hown : wr.ownsRow base 43 5 (.slice A4 n c4) n xs) (hbase : base ≤ wr.heap.size) (hn : n ≤ 100000) (hnm : wr.heap[gn]? = some (.cells namesA 9)) {l : Array Bool} {a : Act} {w : World} {o : Oper} (ho : (opsOf Try.f7 13)[10]? = some o) (hl : l.size = 26) (hun : l.getD 10 true = false) (hn_ : ∀ e ∈ o.after, Region.binds .any e = true → has l e.on) (H : J13 a0 wr A4 c4 n gn k t d p xs base l a w) {K : Act → World → Prop} (hK : ∀ a w, J13 a0 wr A4 c4 n gn k t d p xs base (l.setIfInBounds 10 true) a w → K a w) :
    if Region.wanted o (yielded (opsOf Try.f7 13) a.tmps) = true then Oper.wp Try.prog o a w K Q else K (a.put o.dst undef) w := by
  obtain ⟨hop, hdst, hgu, hty⟩ := op_of ho i13_10
  have hil : 10 < l.size := by omega
  have h := H.js
  have hkeep := H.keep
  refine step_val hgu hdst (r_move a w o hop ((h.fr.get (by decide)).trans z10)) (hK _ _ (H.put (i := 10) (by decide) hl hs hun (.inr (Below.refl _ _)) ⟨rfl, rfl, rfl, Nat.le_refl _, fun _ _ _ => rfl⟩ (fun j _ _ v hv => hv) ?_ (by rfl)))
  exact rfl
theorem s13_11 (hk : k < 4) (ht : t < 2) (hd : d < 4) (hb8 : Go.bits .and .i64 (p / 8) 3 = (d : Int)) (hs : a0.tmps.size = 165) (z3 : a0.eval (.tmp 3) = .slice (some ⟨gn, 0, none⟩) 4 4) (z8 : a0.eval (.tmp 8) = .int .i64 p) (z9 : a0.eval (.tmp 9) = .int .i64 (k : Int)) (z10 : a0.eval (.tmp 10) = .int .i64 (t : Int)) (hown : wr.ownsRow base 43 5 (.slice A4 n c4) n xs) (hbase : base ≤ wr.heap.size) (hn : n ≤ 100000) (hnm : wr.heap[gn]? = some (.cells namesA 9)) {l : Array Bool} {a : Act} {w : World} {o : Oper} (ho : (opsOf Try.f7 13)[11]? = some o) (hl : l.size = 26) (hun : l.getD 11 true = false) (hn_ : ∀ e ∈ o.after, Region.binds .any e = true → has l e.on) (H : J13 a0 wr A4 c4 n gn k t d p xs base l a w) {K : Act → World → Prop} (hK : ∀ a w, J13 a0 wr A4 c4 n gn k t d p xs base (l.setIfInBounds 11 true) a w → K a w) :
    if Region.wanted o (yielded (opsOf Try.f7 13) a.tmps) = true then Oper.wp Try.prog o a w K Q else K (a.put o.dst undef) w := by
  obtain ⟨hop, hdst, hgu, hty⟩ := op_of ho i13_11
  have hil : 11 < l.size := by omega
  have h := H.js
  have hkeep := H.keep
  have hnd := need hn_ (nd_of ho n13_11)
  have q9 := h.spec 9 (by decide) (hnd 9 (by decide))
  have q10 := h.spec 10 (by decide) (hnd 10 (by decide))
  obtain ⟨b, e1, hB⟩ := q9
  refine step_val hgu hdst (r_idxI a w o hop e1 q10 (m := 2) ht) (hK _ _ (H.put (i := 11) (by decide) hl hs hun (.inr (Below.refl _ _)) ⟨rfl, rfl, rfl, Nat.le_refl _, fun _ _ _ => rfl⟩ (fun j _ _ v hv => hv) ?_ (by rfl)))
  exact ⟨b, rfl, hB⟩
theorem s13_12 (hk : k < 4) (ht : t < 2) (hd : d < 4) (hb8 : Go.bits .and .i64 (p / 8) 3 = (d : Int)) (hs : a0.tmps.size = 165) (z3 : a0.eval (.tmp 3) = .slice (some ⟨gn, 0, none⟩) 4 4) (z8 : a0.eval (.tmp 8) = .int .i64 p) (z9 : a0.eval (.tmp 9) = .int .i64 (k : Int)) (z10 : a0.eval (.tmp 10) = .int .i64 (t : Int)) (hown : wr.ownsRow base 43 5 (.slice A4 n c4) n xs) (hbase : base ≤ wr.heap.size) (hn : n ≤ 100000) (hnm : wr.heap[gn]? = some (.cells namesA 9)) {l : Array Bool} {a : Act} {w : World} {o : Oper} (ho : (opsOf Try.f7 13)[12]? = some o) (hl : l.size = 26) (hun : l.getD 12 true = false) (hn_ : ∀ e ∈ o.after, Region.binds .any e = true → has l e.on) (H : J13 a0 wr A4 c4 n gn k t d p xs base l a w) {K : Act → World → Prop} (hK : ∀ a w, J13 a0 wr A4 c4 n gn k t d p xs base (l.setIfInBounds 12 true) a w → K a w) :
    if Region.wanted o (yielded (opsOf Try.f7 13) a.tmps) = true then Oper.wp Try.prog o a w K Q else K (a.put o.dst undef) w := by
  obtain ⟨hop, hdst, hgu, hty⟩ := op_of ho i13_12
  have hil : 12 < l.size := by omega
  have h := H.js
  have hkeep := H.keep
  have hnd := need hn_ (nd_of ho n13_12)
  have q11 := h.spec 11 (by decide) (hnd 11 (by decide))
  obtain ⟨b, e1, hB⟩ := q11
  have hc : w.cell? ⟨b, t, none⟩ = some (.int .i64 ((zc t : Int))) := by
    rw [blk_cell hB.2]
    obtain rfl | rfl : t = 0 ∨ t = 1 := by omega
    all_goals rfl
  refine step_val hgu hdst (r_loadI a w o hop e1 hc) (hK _ _ (H.put (i := 12) (by decide) hl hs hun (.inr (Below.refl _ _)) ⟨rfl, rfl, rfl, Nat.le_refl _, fun _ _ _ => rfl⟩ (fun j _ _ v hv => hv) ?_ (by rfl)))
  exact rfl
theorem s13_13 (hk : k < 4) (ht : t < 2) (hd : d < 4) (hb8 : Go.bits .and .i64 (p / 8) 3 = (d : Int)) (hs : a0.tmps.size = 165) (z3 : a0.eval (.tmp 3) = .slice (some ⟨gn, 0, none⟩) 4 4) (z8 : a0.eval (.tmp 8) = .int .i64 p) (z9 : a0.eval (.tmp 9) = .int .i64 (k : Int)) (z10 : a0.eval (.tmp 10) = .int .i64 (t : Int)) (hown : wr.ownsRow base 43 5 (.slice A4 n c4) n xs) (hbase : base ≤ wr.heap.size) (hn : n ≤ 100000) (hnm : wr.heap[gn]? = some (.cells namesA 9)) {l : Array Bool} {a : Act} {w : World} {o : Oper} (ho : (opsOf Try.f7 13)[13]? = some o) (hl : l.size = 26) (hun : l.getD 13 true = false) (hn_ : ∀ e ∈ o.after, Region.binds .any e = true → has l e.on) (H : J13 a0 wr A4 c4 n gn k t d p xs base l a w) {K : Act → World → Prop} (hK : ∀ a w, J13 a0 wr A4 c4 n gn k t d p xs base (l.setIfInBounds 13 true) a w → K a w) :
    if Region.wanted o (yielded (opsOf Try.f7 13) a.tmps) = true then Oper.wp Try.prog o a w K Q else K (a.put o.dst undef) w := by
  obtain ⟨hop, hdst, hgu, hty⟩ := op_of ho i13_13
  have hil : 13 < l.size := by omega
  have h := H.js
  have hkeep := H.keep
  have hnd := need hn_ (nd_of ho n13_13)
  have q12 := h.spec 12 (by decide) (hnd 12 (by decide))
  have hzc : zc t ≤ 100 := by unfold zc; split <;> omega
  refine step_val hgu hdst (r_make a w o hzc hop q12) (hK _ _ (H.put (i := 13) (by decide) hl hs hun (.inr ((Below.refl _ _).alloc (Nat.le_refl _) _)) (World.grownBy_alloc _ _ _) (fun j _ _ v hv => S13.below ((Below.refl _ _).alloc (Nat.le_refl _) _) hv) ?_ (by rfl)))
  exact ⟨_, rfl, h.grown.size, blk_new _ _⟩
theorem s13_14 (hk : k < 4) (ht : t < 2) (hd : d < 4) (hb8 : Go.bits .and .i64 (p / 8) 3 = (d : Int)) (hs : a0.tmps.size = 165) (z3 : a0.eval (.tmp 3) = .slice (some ⟨gn, 0, none⟩) 4 4) (z8 : a0.eval (.tmp 8) = .int .i64 p) (z9 : a0.eval (.tmp 9) = .int .i64 (k : Int)) (z10 : a0.eval (.tmp 10) = .int .i64 (t : Int)) (hown : wr.ownsRow base 43 5 (.slice A4 n c4) n xs) (hbase : base ≤ wr.heap.size) (hn : n ≤ 100000) (hnm : wr.heap[gn]? = some (.cells namesA 9)) {l : Array Bool} {a : Act} {w : World} {o : Oper} (ho : (opsOf Try.f7 13)[14]? = some o) (hl : l.size = 26) (hun : l.getD 14 true = false) (hn_ : ∀ e ∈ o.after, Region.binds .any e = true → has l e.on) (H : J13 a0 wr A4 c4 n gn k t d p xs base l a w) {K : Act → World → Prop} (hK : ∀ a w, J13 a0 wr A4 c4 n gn k t d p xs base (l.setIfInBounds 14 true) a w → K a w) :
    if Region.wanted o (yielded (opsOf Try.f7 13) a.tmps) = true then Oper.wp Try.prog o a w K Q else K (a.put o.dst undef) w := by
  obtain ⟨hop, hdst, hgu, hty⟩ := op_of ho i13_14
  have hil : 14 < l.size := by omega
  have h := H.js
  have hkeep := H.keep
  have hnd := need hn_ (nd_of ho n13_14)
  have q13 := h.spec 13 (by decide) (hnd 13 (by decide))
  obtain ⟨b, e1, hB⟩ := q13
  refine step_val hgu hdst (r_convZ a w o hop e1 hB.2) (hK _ _ (H.put (i := 14) (by decide) hl hs hun (.inr (Below.refl _ _)) ⟨rfl, rfl, rfl, Nat.le_refl _, fun _ _ _ => rfl⟩ (fun j _ _ v hv => hv) ?_ (by rfl)))
  exact rfl
theorem s13_15 (hk : k < 4) (ht : t < 2) (hd : d < 4) (hb8 : Go.bits .and .i64 (p / 8) 3 = (d : Int)) (hs : a0.tmps.size = 165) (z3 : a0.eval (.tmp 3) = .slice (some ⟨gn, 0, none⟩) 4 4) (z8 : a0.eval (.tmp 8) = .int .i64 p) (z9 : a0.eval (.tmp 9) = .int .i64 (k : Int)) (z10 : a0.eval (.tmp 10) = .int .i64 (t : Int)) (hown : wr.ownsRow base 43 5 (.slice A4 n c4) n xs) (hbase : base ≤ wr.heap.size) (hn : n ≤ 100000) (hnm : wr.heap[gn]? = some (.cells namesA 9)) {l : Array Bool} {a : Act} {w : World} {o : Oper} (ho : (opsOf Try.f7 13)[15]? = some o) (hl : l.size = 26) (hun : l.getD 15 true = false) (hn_ : ∀ e ∈ o.after, Region.binds .any e = true → has l e.on) (H : J13 a0 wr A4 c4 n gn k t d p xs base l a w) {K : Act → World → Prop} (hK : ∀ a w, J13 a0 wr A4 c4 n gn k t d p xs base (l.setIfInBounds 15 true) a w → K a w) :
    if Region.wanted o (yielded (opsOf Try.f7 13) a.tmps) = true then Oper.wp Try.prog o a w K Q else K (a.put o.dst undef) w := by
  obtain ⟨hop, hdst, hgu, hty⟩ := op_of ho i13_15
  have hil : 15 < l.size := by omega
  have h := H.js
  have hkeep := H.keep
  refine step_val hgu hdst (r_move a w o hop ((h.fr.get (by decide)).trans z8)) (hK _ _ (H.put (i := 15) (by decide) hl hs hun (.inr (Below.refl _ _)) ⟨rfl, rfl, rfl, Nat.le_refl _, fun _ _ _ => rfl⟩ (fun j _ _ v hv => hv) ?_ (by rfl)))
  exact rfl
theorem s13_16 (hk : k < 4) (ht : t < 2) (hd : d < 4) (hb8 : Go.bits .and .i64 (p / 8) 3 = (d : Int)) (hs : a0.tmps.size = 165) (z3 : a0.eval (.tmp 3) = .slice (some ⟨gn, 0, none⟩) 4 4) (z8 : a0.eval (.tmp 8) = .int .i64 p) (z9 : a0.eval (.tmp 9) = .int .i64 (k : Int)) (z10 : a0.eval (.tmp 10) = .int .i64 (t : Int)) (hown : wr.ownsRow base 43 5 (.slice A4 n c4) n xs) (hbase : base ≤ wr.heap.size) (hn : n ≤ 100000) (hnm : wr.heap[gn]? = some (.cells namesA 9)) {l : Array Bool} {a : Act} {w : World} {o : Oper} (ho : (opsOf Try.f7 13)[16]? = some o) (hl : l.size = 26) (hun : l.getD 16 true = false) (hn_ : ∀ e ∈ o.after, Region.binds .any e = true → has l e.on) (H : J13 a0 wr A4 c4 n gn k t d p xs base l a w) {K : Act → World → Prop} (hK : ∀ a w, J13 a0 wr A4 c4 n gn k t d p xs base (l.setIfInBounds 16 true) a w → K a w) :
    if Region.wanted o (yielded (opsOf Try.f7 13) a.tmps) = true then Oper.wp Try.prog o a w K Q else K (a.put o.dst undef) w := by
  obtain ⟨hop, hdst, hgu, hty⟩ := op_of ho i13_16
  have hil : 16 < l.size := by omega
  have h := H.js
  have hkeep := H.keep
  have hnd := need hn_ (nd_of ho n13_16)
  have q15 := h.spec 15 (by decide) (hnd 15 (by decide))
  refine step_val hgu hdst (r_shr a w o hop q15) (hK _ _ (H.put (i := 16) (by decide) hl hs hun (.inr (Below.refl _ _)) ⟨rfl, rfl, rfl, Nat.le_refl _, fun _ _ _ => rfl⟩ (fun j _ _ v hv => hv) ?_ (by rfl)))
  exact rfl
theorem s13_17 (hk : k < 4) (ht : t < 2) (hd : d < 4) (hb8 : Go.bits .and .i64 (p / 8) 3 = (d : Int)) (hs : a0.tmps.size = 165) (z3 : a0.eval (.tmp 3) = .slice (some ⟨gn, 0, none⟩) 4 4) (z8 : a0.eval (.tmp 8) = .int .i64 p) (z9 : a0.eval (.tmp 9) = .int .i64 (k : Int)) (z10 : a0.eval (.tmp 10) = .int .i64 (t : Int)) (hown : wr.ownsRow base 43 5 (.slice A4 n c4) n xs) (hbase : base ≤ wr.heap.size) (hn : n ≤ 100000) (hnm : wr.heap[gn]? = some (.cells namesA 9)) {l : Array Bool} {a : Act} {w : World} {o : Oper} (ho : (opsOf Try.f7 13)[17]? = some o) (hl : l.size = 26) (hun : l.getD 17 true = false) (hn_ : ∀ e ∈ o.after, Region.binds .any e = true → has l e.on) (H : J13 a0 wr A4 c4 n gn k t d p xs base l a w) {K : Act → World → Prop} (hK : ∀ a w, J13 a0 wr A4 c4 n gn k t d p xs base (l.setIfInBounds 17 true) a w → K a w) :
    if Region.wanted o (yielded (opsOf Try.f7 13) a.tmps) = true then Oper.wp Try.prog o a w K Q else K (a.put o.dst undef) w := by
  obtain ⟨hop, hdst, hgu, hty⟩ := op_of ho i13_17
  have hil : 17 < l.size := by omega
  have h := H.js
  have hkeep := H.keep
  have hnd := need hn_ (nd_of ho n13_17)
  have q16 := h.spec 16 (by decide) (hnd 16 (by decide))
  refine step_val hgu hdst (r_and a w o hb8 hop q16) (hK _ _ (H.put (i := 17) (by decide) hl hs hun (.inr (Below.refl _ _)) ⟨rfl, rfl, rfl, Nat.le_refl _, fun _ _ _ => rfl⟩ (fun j _ _ v hv => hv) ?_ (by rfl)))
  exact rfl
theorem s13_18 (hk : k < 4) (ht : t < 2) (hd : d < 4) (hb8 : Go.bits .and .i64 (p / 8) 3 = (d : Int)) (hs : a0.tmps.size = 165) (z3 : a0.eval (.tmp 3) = .slice (some ⟨gn, 0, none⟩) 4 4) (z8 : a0.eval (.tmp 8) = .int .i64 p) (z9 : a0.eval (.tmp 9) = .int .i64 (k : Int)) (z10 : a0.eval (.tmp 10) = .int .i64 (t : Int)) (hown : wr.ownsRow base 43 5 (.slice A4 n c4) n xs) (hbase : base ≤ wr.heap.size) (hn : n ≤ 100000) (hnm : wr.heap[gn]? = some (.cells namesA 9)) {l : Array Bool} {a : Act} {w : World} {o : Oper} (ho : (opsOf Try.f7 13)[18]? = some o) (hl : l.size = 26) (hun : l.getD 18 true = false) (hn_ : ∀ e ∈ o.after, Region.binds .any e = true → has l e.on) (H : J13 a0 wr A4 c4 n gn k t d p xs base l a w) {K : Act → World → Prop} (hK : ∀ a w, J13 a0 wr A4 c4 n gn k t d p xs base (l.setIfInBounds 18 true) a w → K a w) :
    if Region.wanted o (yielded (opsOf Try.f7 13) a.tmps) = true then Oper.wp Try.prog o a w K Q else K (a.put o.dst undef) w := by
  obtain ⟨hop, hdst, hgu, hty⟩ := op_of ho i13_18
  have hil : 18 < l.size := by omega
  have h := H.js
  have hkeep := H.keep
  have hnd := need hn_ (nd_of ho n13_18)
  have q17 := h.spec 17 (by decide) (hnd 17 (by decide))
  refine step_val hgu hdst (r_u8 a w o (by omega) hop q17) (hK _ _ (H.put (i := 18) (by decide) hl hs hun (.inr (Below.refl _ _)) ⟨rfl, rfl, rfl, Nat.le_refl _, fun _ _ _ => rfl⟩ (fun j _ _ v hv => hv) ?_ (by rfl)))
  exact rfl
theorem s13_19 (hk : k < 4) (ht : t < 2) (hd : d < 4) (hb8 : Go.bits .and .i64 (p / 8) 3 = (d : Int)) (hs : a0.tmps.size = 165) (z3 : a0.eval (.tmp 3) = .slice (some ⟨gn, 0, none⟩) 4 4) (z8 : a0.eval (.tmp 8) = .int .i64 p) (z9 : a0.eval (.tmp 9) = .int .i64 (k : Int)) (z10 : a0.eval (.tmp 10) = .int .i64 (t : Int)) (hown : wr.ownsRow base 43 5 (.slice A4 n c4) n xs) (hbase : base ≤ wr.heap.size) (hn : n ≤ 100000) (hnm : wr.heap[gn]? = some (.cells namesA 9)) {l : Array Bool} {a : Act} {w : World} {o : Oper} (ho : (opsOf Try.f7 13)[19]? = some o) (hl : l.size = 26) (hun : l.getD 19 true = false) (hn_ : ∀ e ∈ o.after, Region.binds .any e = true → has l e.on) (H : J13 a0 wr A4 c4 n gn k t d p xs base l a w) {K : Act → World → Prop} (hK : ∀ a w, J13 a0 wr A4 c4 n gn k t d p xs base (l.setIfInBounds 19 true) a w → K a w) :
    if Region.wanted o (yielded (opsOf Try.f7 13) a.tmps) = true then Oper.wp Try.prog o a w K Q else K (a.put o.dst undef) w := by
  obtain ⟨hop, hdst, hgu, hty⟩ := op_of ho i13_19
  have hil : 19 < l.size := by omega
  have h := H.js
  have hkeep := H.keep
  have hnd := need hn_ (nd_of ho n13_19)
  have q18 := h.spec 18 (by decide) (hnd 18 (by decide))
  refine step_val hgu hdst (r_one8 a w o hop q18) (hK _ _ (H.put (i := 19) (by decide) hl hs hun (.inr ((Below.refl _ _).alloc (Nat.le_refl _) _)) (World.grownBy_alloc _ _ _) (fun j _ _ v hv => S13.below ((Below.refl _ _).alloc (Nat.le_refl _) _) hv) ?_ (by rfl)))
  exact ⟨_, rfl, h.grown.size, blk_new _ _⟩
theorem s13_20 (hk : k < 4) (ht : t < 2) (hd : d < 4) (hb8 : Go.bits .and .i64 (p / 8) 3 = (d : Int)) (hs : a0.tmps.size = 165) (z3 : a0.eval (.tmp 3) = .slice (some ⟨gn, 0, none⟩) 4 4) (z8 : a0.eval (.tmp 8) = .int .i64 p) (z9 : a0.eval (.tmp 9) = .int .i64 (k : Int)) (z10 : a0.eval (.tmp 10) = .int .i64 (t : Int)) (hown : wr.ownsRow base 43 5 (.slice A4 n c4) n xs) (hbase : base ≤ wr.heap.size) (hn : n ≤ 100000) (hnm : wr.heap[gn]? = some (.cells namesA 9)) {l : Array Bool} {a : Act} {w : World} {o : Oper} (ho : (opsOf Try.f7 13)[20]? = some o) (hl : l.size = 26) (hun : l.getD 20 true = false) (hn_ : ∀ e ∈ o.after, Region.binds .any e = true → has l e.on) (H : J13 a0 wr A4 c4 n gn k t d p xs base l a w) {K : Act → World → Prop} (hK : ∀ a w, J13 a0 wr A4 c4 n gn k t d p xs base (l.setIfInBounds 20 true) a w → K a w) :
    if Region.wanted o (yielded (opsOf Try.f7 13) a.tmps) = true then Oper.wp Try.prog o a w K Q else K (a.put o.dst undef) w := by
  obtain ⟨hop, hdst, hgu, hty⟩ := op_of ho i13_20
  have hil : 20 < l.size := by omega
  have h := H.js
  have hkeep := H.keep
  have hnd := need hn_ (nd_of ho n13_20)
  have q19 := h.spec 19 (by decide) (hnd 19 (by decide))
  obtain ⟨b, e1, hB⟩ := q19
  refine step_val hgu hdst (r_conv1 a w o hop e1 hB.2) (hK _ _ (H.put (i := 20) (by decide) hl hs hun (.inr (Below.refl _ _)) ⟨rfl, rfl, rfl, Nat.le_refl _, fun _ _ _ => rfl⟩ (fun j _ _ v hv => hv) ?_ (by rfl)))
  exact rfl
theorem s13_21 (hk : k < 4) (ht : t < 2) (hd : d < 4) (hb8 : Go.bits .and .i64 (p / 8) 3 = (d : Int)) (hs : a0.tmps.size = 165) (z3 : a0.eval (.tmp 3) = .slice (some ⟨gn, 0, none⟩) 4 4) (z8 : a0.eval (.tmp 8) = .int .i64 p) (z9 : a0.eval (.tmp 9) = .int .i64 (k : Int)) (z10 : a0.eval (.tmp 10) = .int .i64 (t : Int)) (hown : wr.ownsRow base 43 5 (.slice A4 n c4) n xs) (hbase : base ≤ wr.heap.size) (hn : n ≤ 100000) (hnm : wr.heap[gn]? = some (.cells namesA 9)) {l : Array Bool} {a : Act} {w : World} {o : Oper} (ho : (opsOf Try.f7 13)[21]? = some o) (hl : l.size = 26) (hun : l.getD 21 true = false) (hn_ : ∀ e ∈ o.after, Region.binds .any e = true → has l e.on) (H : J13 a0 wr A4 c4 n gn k t d p xs base l a w) {K : Act → World → Prop} (hK : ∀ a w, J13 a0 wr A4 c4 n gn k t d p xs base (l.setIfInBounds 21 true) a w → K a w) :
    if Region.wanted o (yielded (opsOf Try.f7 13) a.tmps) = true then Oper.wp Try.prog o a w K Q else K (a.put o.dst undef) w := by
  obtain ⟨hop, hdst, hgu, hty⟩ := op_of ho i13_21
  have hil : 21 < l.size := by omega
  have h := H.js
  have hkeep := H.keep
  have hnd := need hn_ (nd_of ho n13_21)
  have q14 := h.spec 14 (by decide) (hnd 14 (by decide))
  have q20 := h.spec 20 (by decide) (hnd 20 (by decide))
  have hcat : (zeros (zc t)).size + (strOfNums [(d : Int)]).size ≤ 1000000 := by rw [Oct.zeros_size, Go.strOfNums_size]; unfold zc; split <;> simp
  refine step_val hgu hdst (r_cat a w o hcat hop q14 q20) (hK _ _ (H.put (i := 21) (by decide) hl hs hun (.inr (Below.refl _ _)) ⟨rfl, rfl, rfl, Nat.le_refl _, fun _ _ _ => rfl⟩ (fun j _ _ v hv => hv) ?_ (by rfl)))
  exact rfl
theorem s13_22 (hk : k < 4) (ht : t < 2) (hd : d < 4) (hb8 : Go.bits .and .i64 (p / 8) 3 = (d : Int)) (hs : a0.tmps.size = 165) (z3 : a0.eval (.tmp 3) = .slice (some ⟨gn, 0, none⟩) 4 4) (z8 : a0.eval (.tmp 8) = .int .i64 p) (z9 : a0.eval (.tmp 9) = .int .i64 (k : Int)) (z10 : a0.eval (.tmp 10) = .int .i64 (t : Int)) (hown : wr.ownsRow base 43 5 (.slice A4 n c4) n xs) (hbase : base ≤ wr.heap.size) (hn : n ≤ 100000) (hnm : wr.heap[gn]? = some (.cells namesA 9)) {l : Array Bool} {a : Act} {w : World} {o : Oper} (ho : (opsOf Try.f7 13)[22]? = some o) (hl : l.size = 26) (hun : l.getD 22 true = false) (hn_ : ∀ e ∈ o.after, Region.binds .any e = true → has l e.on) (H : J13 a0 wr A4 c4 n gn k t d p xs base l a w) {K : Act → World → Prop} (hK : ∀ a w, J13 a0 wr A4 c4 n gn k t d p xs base (l.setIfInBounds 22 true) a w → K a w) :
    if Region.wanted o (yielded (opsOf Try.f7 13) a.tmps) = true then Oper.wp Try.prog o a w K Q else K (a.put o.dst undef) w := by
  obtain ⟨hop, hdst, hgu, hty⟩ := op_of ho i13_22
  have hil : 22 < l.size := by omega
  have h := H.js
  have hkeep := H.keep
  have hnd := need hn_ (nd_of ho n13_22)
  have q4 := h.spec 4 (by decide) (hnd 4 (by decide))
  have q8 := h.spec 8 (by decide) (hnd 8 (by decide))
  have q21 := h.spec 21 (by decide) (hnd 21 (by decide))
  refine step_val hgu hdst (r_rec a w o hop q4 q8 q21) (hK _ _ (H.put (i := 22) (by decide) hl hs hun (.inr (Below.refl _ _)) ⟨rfl, rfl, rfl, Nat.le_refl _, fun _ _ _ => rfl⟩ (fun j _ _ v hv => hv) ?_ (by rfl)))
  exact rfl
theorem s13_23 (hk : k < 4) (ht : t < 2) (hd : d < 4) (hb8 : Go.bits .and .i64 (p / 8) 3 = (d : Int)) (hs : a0.tmps.size = 165) (z3 : a0.eval (.tmp 3) = .slice (some ⟨gn, 0, none⟩) 4 4) (z8 : a0.eval (.tmp 8) = .int .i64 p) (z9 : a0.eval (.tmp 9) = .int .i64 (k : Int)) (z10 : a0.eval (.tmp 10) = .int .i64 (t : Int)) (hown : wr.ownsRow base 43 5 (.slice A4 n c4) n xs) (hbase : base ≤ wr.heap.size) (hn : n ≤ 100000) (hnm : wr.heap[gn]? = some (.cells namesA 9)) {l : Array Bool} {a : Act} {w : World} {o : Oper} (ho : (opsOf Try.f7 13)[23]? = some o) (hl : l.size = 26) (hun : l.getD 23 true = false) (hn_ : ∀ e ∈ o.after, Region.binds .any e = true → has l e.on) (H : J13 a0 wr A4 c4 n gn k t d p xs base l a w) {K : Act → World → Prop} (hK : ∀ a w, J13 a0 wr A4 c4 n gn k t d p xs base (l.setIfInBounds 23 true) a w → K a w) :
    if Region.wanted o (yielded (opsOf Try.f7 13) a.tmps) = true then Oper.wp Try.prog o a w K Q else K (a.put o.dst undef) w := by
  obtain ⟨hop, hdst, hgu, hty⟩ := op_of ho i13_23
  have hil : 23 < l.size := by omega
  have h := H.js
  have hkeep := H.keep
  have hnd := need hn_ (nd_of ho n13_23)
  have q22 := h.spec 22 (by decide) (hnd 22 (by decide))
  refine step_val hgu hdst (r_oneR a w o hop q22) (hK _ _ (H.put (i := 23) (by decide) hl hs hun (.inr ((Below.refl _ _).alloc (Nat.le_refl _) _)) (World.grownBy_alloc _ _ _) (fun j _ _ v hv => S13.below ((Below.refl _ _).alloc (Nat.le_refl _) _) hv) ?_ (by rfl)))
  exact ⟨_, rfl, h.grown.size, blk_new _ _⟩
theorem s13_24 (hk : k < 4) (ht : t < 2) (hd : d < 4) (hb8 : Go.bits .and .i64 (p / 8) 3 = (d : Int)) (hs : a0.tmps.size = 165) (z3 : a0.eval (.tmp 3) = .slice (some ⟨gn, 0, none⟩) 4 4) (z8 : a0.eval (.tmp 8) = .int .i64 p) (z9 : a0.eval (.tmp 9) = .int .i64 (k : Int)) (z10 : a0.eval (.tmp 10) = .int .i64 (t : Int)) (hown : wr.ownsRow base 43 5 (.slice A4 n c4) n xs) (hbase : base ≤ wr.heap.size) (hn : n ≤ 100000) (hnm : wr.heap[gn]? = some (.cells namesA 9)) {l : Array Bool} {a : Act} {w : World} {o : Oper} (ho : (opsOf Try.f7 13)[24]? = some o) (hl : l.size = 26) (hun : l.getD 24 true = false) (hn_ : ∀ e ∈ o.after, Region.binds .any e = true → has l e.on) (H : J13 a0 wr A4 c4 n gn k t d p xs base l a w) {K : Act → World → Prop} (hK : ∀ a w, J13 a0 wr A4 c4 n gn k t d p xs base (l.setIfInBounds 24 true) a w → K a w) :
    if Region.wanted o (yielded (opsOf Try.f7 13) a.tmps) = true then Oper.wp Try.prog o a w K Q else K (a.put o.dst undef) w := by
  obtain ⟨hop, hdst, hgu, hty⟩ := op_of ho i13_24
  have hil : 24 < l.size := by omega
  have h := H.js
  have hkeep := H.keep
  have hnd := need hn_ (nd_of ho n13_24)
  have q0 := h.spec 0 (by decide) (hnd 0 (by decide))
  have q23 := h.spec 23 (by decide) (hnd 23 (by decide))
  obtain ⟨b, e1, hB⟩ := q23
  have hn24 : ¬ has l 24 := not_has hil hun
  have hn25 : ¬ has l 25 := fun e => hn24 (H.late e).1
  have hqb := H.quiet hn24
  have hro := Sl.own_below hown hqb
  have hsz := hqb.size
  obtain ⟨i0, hi, hz0, hz1, hz2⟩ := info_parts (show ((Try.prog).info? 43).map (fun i => (i.zero, i.size, i.bytes)) = some (some (Value.agg #[.string ⟨#[]⟩, .int .i64 0, .int .i64 0, .int .i64 0, .string ⟨#[]⟩]), 5, 56) by kernel_rfl)
  obtain ⟨v1, w1, hr, ho1, hg1, _, _⟩ := run_append_own_at (P := Try.prog) (w := w) base 22 22 43 i0 _ 5 56 Try.underlying22 hi hz0 hz1 hz2 rfl (by decide) (.slice A4 n c4) n xs hro ⟨b, 0, none⟩ 1 1 (recC k t d).toList rfl (World.news_of_block hB.2) (by intro u hu; simp [recC] at hu; rcases hu with rfl | rfl | rfl | rfl | rfl <;> rfl) (by simp only [maxLen]; omega) (by omega) (by omega)
  have hrun : (execOp a.eval o).run Try.prog w = .ok (.value v1) w1 := by
    have e43 : a.eval (.tmp 43) = .slice A4 n c4 := q0
    have e66 : a.eval (.tmp 66) = .slice (some ⟨b, 0, none⟩) 1 1 := e1
    unfold execOp
    simp only [hop, hty, resolve, invoke, builtin, Sem.run_bind, Sem.run_pure, Result.andThen_ok, List.map_toArray, List.map_cons, List.map_nil, e43, e66, hr]
  refine step_val hgu hdst hrun (hK _ _ (H.put (i := 24) (by decide) hl hs hun (.inl rfl) hg1 (fun j hj hh v hv => S13.grown (rb_lt hown) hg1 ?_ hv) ho1 (by rfl)))
  rcases Nat.lt_or_ge j 24 with h1 | h1
  · exact h1
  · rcases Nat.eq_or_lt_of_le h1 with h2 | h2
    · subst h2; exact absurd hh hn24
    · obtain rfl : j = 25 := by omega
      exact absurd hh hn25
theorem s13_25 (hs : a0.tmps.size = 165) {l : Array Bool} {a : Act} {w : World} {o : Oper} (ho : (opsOf Try.f7 13)[25]? = some o) (hl : l.size = 26) (hun : l.getD 25 true = false) (hn_ : ∀ e ∈ o.after, Region.binds .any e = true → has l e.on) (H : J13 a0 wr A4 c4 n gn k t d p xs base l a w) {K : Act → World → Prop} (hK : ∀ a w, J13 a0 wr A4 c4 n gn k t d p xs base (l.setIfInBounds 25 true) a w → K a w) :
    if Region.wanted o (yielded (opsOf Try.f7 13) a.tmps) = true then Oper.wp Try.prog o a w K Q else K (a.put o.dst undef) w := by
  obtain ⟨hop, hdst, hgu, hty⟩ := op_of ho i13_25
  have hil : 25 < l.size := by omega
  have hnd := need hn_ (nd_of ho n13_25)
  have q24 := H.js.spec 24 (by decide) (hnd 24 (by decide))
  have h0 := hnd 0 (by decide)
  have h24 := hnd 24 (by decide)
  refine step_val hgu hdst (r_assign a w o hop rfl) (hK _ _ ⟨H.js.put (i := 25) (by decide) hil (by unfold D13; decide) (by rw [hs]; decide) ⟨rfl, rfl, rfl, Nat.le_refl _, fun _ _ _ => rfl⟩ (fun j _ _ v hv => hv) q24, fun _ => ⟨(has_set hil).2 (.inr h24), (has_set hil).2 (.inr h0)⟩, fun q => absurd ((has_set hil).2 (.inl rfl)) q, fun q => absurd ((has_set hil).2 (.inr h24)) q⟩)
/-- The region: a record is put behind the row. -/
theorem region13 {id : Nat} (hk : k < 4) (ht : t < 2) (hd : d < 4) (hb8 : Go.bits .and .i64 (p / 8) 3 = (d : Int)) (hs : a0.tmps.size = 165) (z3 : a0.eval (.tmp 3) = .slice (some ⟨gn, 0, none⟩) 4 4) (z4 : a0.eval (.tmp 4) = .slice A4 n c4) (z8 : a0.eval (.tmp 8) = .int .i64 p) (z9 : a0.eval (.tmp 9) = .int .i64 (k : Int)) (z10 : a0.eval (.tmp 10) = .int .i64 (t : Int)) (hown : wr.ownsRow base 43 5 (.slice A4 n c4) n xs) (hbase : base ≤ wr.heap.size) (hn : n ≤ 100000) (hnm : wr.heap[gn]? = some (.cells namesA 9))
    (hQ : ∀ a w, a = ⟨D13.foldl (fun x t => x.setIfInBounds t (a.eval (.tmp t))) a0.tmps, a0.defers⟩ → w.ownsRow base 43 5 (a.eval (.tmp 4)) (n + 1) (xs ++ (recC k t d).toList) → wr.grownBy w (Value.slice A4 n c4).ownBlock → Q .normal a w) :
    (Code.region id (opsOf Try.f7 13) true).wp Try.prog Q a0 wr := by
  refine region_each (J := J13 a0 wr A4 c4 n gn k t d p xs base) (by kernel_rfl) ⟨JS.start, fun q => ?_, fun _ => z4, fun _ => (Below.refl _ _).drew⟩ ?_ ?_
  · unfold has at q
    rw [Array.getD_eq_getD_getElem?, Array.getElem?_replicate] at q
    split at q <;> simp at q
  · intro i o l a w ho hl hil hun hn_ H K hK
    rw [sz13] at hl
    match i, hil with
    | 0, hil => exact s13_0 hk ht hd hb8 hs z3 z8 z9 z10 hown hbase hn hnm ho hl hun hn_ H hK
    | 1, hil => exact s13_1 hk ht hd hb8 hs z3 z8 z9 z10 hown hbase hn hnm ho hl hun hn_ H hK
    | 2, hil => exact s13_2 hk ht hd hb8 hs z3 z8 z9 z10 hown hbase hn hnm ho hl hun hn_ H hK
    | 3, hil => exact s13_3 hk ht hd hb8 hs z3 z8 z9 z10 hown hbase hn hnm ho hl hun hn_ H hK
    | 4, hil => exact s13_4 hk ht hd hb8 hs z3 z8 z9 z10 hown hbase hn hnm ho hl hun hn_ H hK
    | 5, hil => exact s13_5 hk ht hd hb8 hs z3 z8 z9 z10 hown hbase hn hnm ho hl hun hn_ H hK
    | 6, hil => exact s13_6 hk ht hd hb8 hs z3 z8 z9 z10 hown hbase hn hnm ho hl hun hn_ H hK
    | 7, hil => exact s13_7 hk ht hd hb8 hs z3 z8 z9 z10 hown hbase hn hnm ho hl hun hn_ H hK
    | 8, hil => exact s13_8 hk ht hd hb8 hs z3 z8 z9 z10 hown hbase hn hnm ho hl hun hn_ H hK
    | 9, hil => exact s13_9 hk ht hd hb8 hs z3 z8 z9 z10 hown hbase hn hnm ho hl hun hn_ H hK
    | 10, hil => exact s13_10 hk ht hd hb8 hs z3 z8 z9 z10 hown hbase hn hnm ho hl hun hn_ H hK
    | 11, hil => exact s13_11 hk ht hd hb8 hs z3 z8 z9 z10 hown hbase hn hnm ho hl hun hn_ H hK
    | 12, hil => exact s13_12 hk ht hd hb8 hs z3 z8 z9 z10 hown hbase hn hnm ho hl hun hn_ H hK
    | 13, hil => exact s13_13 hk ht hd hb8 hs z3 z8 z9 z10 hown hbase hn hnm ho hl hun hn_ H hK
    | 14, hil => exact s13_14 hk ht hd hb8 hs z3 z8 z9 z10 hown hbase hn hnm ho hl hun hn_ H hK
    | 15, hil => exact s13_15 hk ht hd hb8 hs z3 z8 z9 z10 hown hbase hn hnm ho hl hun hn_ H hK
    | 16, hil => exact s13_16 hk ht hd hb8 hs z3 z8 z9 z10 hown hbase hn hnm ho hl hun hn_ H hK
    | 17, hil => exact s13_17 hk ht hd hb8 hs z3 z8 z9 z10 hown hbase hn hnm ho hl hun hn_ H hK
    | 18, hil => exact s13_18 hk ht hd hb8 hs z3 z8 z9 z10 hown hbase hn hnm ho hl hun hn_ H hK
    | 19, hil => exact s13_19 hk ht hd hb8 hs z3 z8 z9 z10 hown hbase hn hnm ho hl hun hn_ H hK
    | 20, hil => exact s13_20 hk ht hd hb8 hs z3 z8 z9 z10 hown hbase hn hnm ho hl hun hn_ H hK
    | 21, hil => exact s13_21 hk ht hd hb8 hs z3 z8 z9 z10 hown hbase hn hnm ho hl hun hn_ H hK
    | 22, hil => exact s13_22 hk ht hd hb8 hs z3 z8 z9 z10 hown hbase hn hnm ho hl hun hn_ H hK
    | 23, hil => exact s13_23 hk ht hd hb8 hs z3 z8 z9 z10 hown hbase hn hnm ho hl hun hn_ H hK
    | 24, hil => exact s13_24 hk ht hd hb8 hs z3 z8 z9 z10 hown hbase hn hnm ho hl hun hn_ H hK
    | 25, hil => exact s13_25 hs ho hl hun hn_ H hK
    | i + 26, hil => omega
  · intro l a w hr hl H
    have hall := all_has hl back13 hr
    exact hQ a w H.js.fr.refill (H.js.spec 25 (by decide) (hall 25 (by rw [sz13]; decide))) H.js.grown
end
end Go.Proofs.Ythlajjcdmhgcmaa.Sp

namespace Go.Proofs.Ythlajjcdmhgcmaa.Pu
open Go.RowKit Go.Proofs.YthlajjcdmhgcmaaW.PrintWords
set_option linter.unusedVariables false

/-! ### whole numbers -/
theorem wraps_i64 (n : Int) (h0 : 0 ≤ n) (h1 : n < 2 ^ 63) : IntKind.i64.wrap n = n := by
  rw [IntKind.wrap_i64]; omega
theorem and_mask (i : Nat) (hi : i ≤ 63) (x : Int) : Go.bits .and .i64 x (2 ^ i - 1) = x % 2 ^ i := by
  have hpos : 0 < 2 ^ i := Nat.two_pow_pos i
  have hle : 2 ^ i ≤ 2 ^ 63 := Nat.pow_le_pow_right (by decide) hi
  have hc : ((2 : Int) ^ i - 1) = ((2 ^ i - 1 : Nat) : Int) := by rw [Int.natCast_sub hpos]; simp
  have hm : (2 ^ i - 1) % 2 ^ 64 = 2 ^ i - 1 := Nat.mod_eq_of_lt (by omega)
  have hx : (BitVec.ofInt 64 x).toNat = (x % 18446744073709551616).toNat := by simp [BitVec.toNat_ofInt]
  have e : ((x % 18446744073709551616).toNat : Int) = x % 18446744073709551616 := by omega
  have hd : (2 : Int) ^ i ∣ 18446744073709551616 := by
    have : (18446744073709551616 : Int) = 2 ^ i * 2 ^ (64 - i) := by rw [← Int.pow_add]; rw [show i + (64 - i) = 64 by omega]; decide
    exact ⟨_, this⟩
  rw [hc]
  show IntKind.i64.wrap (((BitVec.ofInt 64 x &&& BitVec.ofInt 64 ((2 ^ i - 1 : Nat) : Int)).toNat : Nat) : Int) = _
  rw [BitVec.toNat_and, BitVec.ofInt_natCast, BitVec.toNat_ofNat, hm, hx, Nat.and_two_pow_sub_one_eq_mod]
  have e2 : (((x % 18446744073709551616).toNat % 2 ^ i : Nat) : Int) = x % 2 ^ i := by
    rw [Int.natCast_emod, e]; push_cast
    exact Int.emod_emod_of_dvd _ hd
  rw [e2]
  have h2 : (0 : Int) < 2 ^ i := by exact_mod_cast hpos
  have h3 : (2 : Int) ^ i ≤ 2 ^ 63 := by exact_mod_cast hle
  have := Int.emod_nonneg x (Int.ne_of_gt h2)
  have := Int.emod_lt_of_pos x h2
  exact wraps_i64 _ (by assumption) (by omega)
theorem and_1 (x : Int) : Go.bits .and .i64 x 1 = x % 2 := and_mask 1 (by decide) x
theorem and_3 (x : Int) : Go.bits .and .i64 x 3 = x % 4 := and_mask 2 (by decide) x
/-! ### lists -/
/-! ### strings as bytes -/
/-! ### from some number of rounds on -/
section
variable {α β : Type} {r : α}
theorem Ev.pos {c : Prop} [Decidable c] {f g : Nat → Option α} (h : c) (k : Ev f r) : Ev (fun n => if c then f n else g n) r := by
  simp only [if_pos h]; exact k
theorem Ev.neg {c : Prop} [Decidable c] {f g : Nat → Option α} (h : ¬ c) (k : Ev g r) : Ev (fun n => if c then f n else g n) r := by
  simp only [if_neg h]; exact k
theorem Ev.some (f : Nat → Option α) (h : ∀ n, f n = some r) : Ev f r := ⟨0, fun n _ => h n⟩
end
end Go.Proofs.Ythlajjcdmhgcmaa.Pu

namespace Go.Proofs.Ythlajjcdmhgcmaa.RFo
open Go.RowKit Go.PlainAid Go.Proofs.Ythlajjcdmhgcmaa.Base Go.Proofs.Ythlajjcdmhgcmaa.Oct Go.Proofs.Ythlajjcdmhgcmaa.Sl Go.Proofs.Ythlajjcdmhgcmaa.Nm Go.Proofs.Ythlajjcdmhgcmaa.Fo
set_option linter.unusedVariables false
set_option linter.unusedSimpArgs false
theorem part_stay (l : List UInt8) (i : Nat) (h : i < l.length) (hx : (l.getD i 0).toNat ≤ 63) : Fo.part l i = Fo.part l (i + 1) := by
  have := part_set l i h
  have e : lowB (l.getD i 0) = l.getD i 0 := if_neg (by omega)
  rw [e, ← part_get l i h] at this
  rw [← this]
  rw [List.getD_eq_getElem?_getD, List.getElem?_eq_getElem (by rw [part_length]; exact h)]
  simp
set_option maxHeartbeats 2000000 in
set_option maxRecDepth 100000 in
theorem rfoldc (s : ByteArray) (w : World) : Calls Try.prog 23 #[.string s] w fun e w' => e = .returned (.string (foldN s)) ∧ Below w.heap.size w w' := by
  have kp := rplaces_any s w
  have kc := fun w => Lib.run_convert_string_bytes (P := Try.prog) w 9 55 5 s Try.underlying9 Try.underlying55 Try.underlying5
  by_cases hn : nameB s = true
  case neg =>
    have hf : nameB s = false := by simpa using hn
    go_enter Try.func23, Try.ntmps23
    go_wp2_with fail
    refine kp.mono ?_
    rintro e w1 ⟨v, rfl, hb, _⟩
    rw [hf]
    clear kp kc
    go_wp2_with fail
    go_ret
    exact ⟨by unfold foldN; rw [if_neg hn]; rfl, hb⟩
  have HP := Lib.hid (pl hn)
  have HN := Lib.hid hn
  have hs255 : s.size ≤ 255 := by have := HN.out; unfold nameB at this; rw [Bool.and_eq_true, decide_eq_true_iff] at this; exact this.1
  go_enter Try.func23, Try.ntmps23
  go_wp2_with fail
  refine kp.mono ?_
  rintro e w1 ⟨v, rfl, hb, ho⟩
  rw [hn]
  have own := ho hn
  clear kp ho hn
  obtain ⟨hlp, hll⟩ : 0 < (places s).length ∧ (places s).length ≤ 255 := ⟨HP.out.pos, HP.out.len⟩
  obtain ⟨pg, pc, hv, hpb⟩ : ∃ g c, v = .slice (some ⟨g, 0, none⟩) (places s).length c ∧ w.heap.size ≤ g := by
    rcases own.2 with ⟨_, h0⟩ | ⟨g, cap, cur, hv, hg, _⟩
    · omega
    · exact ⟨g, cap, hv, hg⟩
  subst hv
  have hcell : ∀ j, j < (places s).length → w1.cell? ⟨pg, j, none⟩ = some (.int .i64 ((places s).getD j 0 : Nat)) := fun j hj => by
    have := own.cells (g := pg) rfl j (.int .i64 ((places s).getD j 0 : Nat)) (by simp [pcells, List.getElem?_eq_getElem hj, List.getD_eq_getElem?_getD])
    rwa [show (⟨pg, 0, none⟩ : Addr).add j = ⟨pg, j, none⟩ by unfold Addr.add; split <;> simp_all] at this
  have hpl : (places s).length ≤ pc := by
    rcases own.2 with ⟨h0, _⟩ | ⟨g, cap, cur, hv, _, _, hc, _⟩
    · cases h0
    · injection hv with _ _ hc'; omega
  have hlt := own.lt pg rfl
  have HC := Lib.hid hcell
  clear hcell own
  go_upto_region 5 with (fail)
  obtain ⟨Bm, hI, hz1⟩ := BRow.made w1 5 s
  have Bw := hb.trans (Bm.mono hb.size)
  generalize Lib.bytesWorld w1 5 s = w2 at *
  generalize grownCap w1 s.size 0 5 = cap at *
  obtain ⟨g, hg⟩ : ∃ g, g = w1.heap.size := ⟨_, rfl⟩
  rw [← hg] at hI ⊢
  have hpg : pg < g := by rw [hg]; exact hlt.2
  have HG := Lib.hid (show w.heap.size ≤ g by rw [hg]; exact hb.size)
  have hc2 : ∀ j, j < (places s).length → w2.cell? ⟨pg, j, none⟩ = some (.int .i64 ((places s).getD j 0 : Nat)) := fun j hj => (Bm.cell hlt.2).trans (HC.out j hj)
  have HC2 := Lib.hid hc2
  clear hc2 kc hg hz1 Bm hlt HC hb
  have HPN := Lib.hid (show (places s).length - 1 + 1 = (places s).length by omega)
  have hz := len_data s
  go_wp2_with fail
  go_loopg [6] ((places s).length) (fun k v6 wr => ∃ i : Nat, v6 = .int .i64 (i : Int) ∧ i + 1 + k = (places s).length + 1 ∧ i < (places s).length ∧ BRow.Is wr 5 g (Fo.part s.data.toList ((places s).getD i 0)) ∧ Below g w2 wr)
  case atStart => exact ⟨0, rfl, by omega, by omega, by rw [HP.out.first]; simpa [Fo.part] using hI, Below.refl _ _⟩
  case round =>
    obtain ⟨i, rfl, hk, hil, HI, HB⟩ := hrel
    have HB' := Lib.hid HB
    have HI' := Lib.hid HI
    have e0 : IntKind.i64.wrap ((i : Int) + 1) = ((i + 1 : Nat) : Int) := by rw [IntWalk.i64_in _ (by omega)]; omega
    by_cases h : i + 1 < (places s).length
    · obtain ⟨i1, hi1⟩ : ∃ i1 : Nat, i1 = i + 1 := ⟨_, rfl⟩
      have q : decide ((i1 : Int) < (places s).length) = true := by simp; omega
      have c0 : wr.cell? ⟨pg, i, none⟩ = _ := (HB.cell hpg).trans (HC2.out i hil)
      have c1 : ∀ wz, Below g w2 wz → wz.cell? ⟨pg, i1, none⟩ = _ := fun wz hz => (hz.cell hpg).trans (HC2.out i1 (by omega))
      obtain ⟨n1, n2, n3⟩ := HP.out.next i h
      rw [← hi1] at n1 n3 e0
      have HI1 := Lib.hid hi1
      have nb := bt_nonneg s ((places s).getD i 0)
      have bd := bt_data s ((places s).getD i 0)
      generalize hx : (places s).getD i 0 = x at *
      generalize hy : (places s).getD i1 0 = y at *
      have hst := part_stay s.data.toList x (by omega) (by omega)
      rw [hst] at HI
      have HI2 := Lib.hid HI
      have HY := Lib.hid hy
      have HX := Lib.hid hx
      have hxy : x + 1 ≤ y := by omega
      have hys : y < s.size := n3
      have m1 : (0 : Int) ≤ (i : Int) := by omega
      have m2 : (i : Int) < ((places s).length : Int) := by omega
      have m3 : (0 : Int) ≤ (i1 : Int) := by omega
      have m4 : (i1 : Int) < ((places s).length : Int) := by omega
      have e2 : IntKind.i64.wrap ((x : Int) + 1) = ((x + 1 : Nat) : Int) := by rw [IntWalk.i64_in _ (by omega)]; omega
      clear hst n1 n2 n3 nb bd hx hy hi1 HI HI' HB
      go_wp2_with fail
      go_loopg [7] (y - x) (fun k v7 wr => ∃ j : Nat, v7 = .int .i64 (j : Int) ∧ j + k = y + 1 ∧ x + 1 ≤ j ∧ j ≤ y ∧ BRow.Is wr 5 g (Fo.part s.data.toList j) ∧ Below g w2 wr)
      case atStart => exact ⟨x + 1, rfl, by omega, by omega, by omega, HI2.out, HB'.out⟩
      case round =>
        obtain ⟨j, rfl, hjk, hjx, hjy, HJ, HBJ⟩ := hrel
        have d1 := c1 _ HBJ
        have HJ' := Lib.hid HJ
        have HBJ' := Lib.hid HBJ
        by_cases hj : j < y
        · have q1 : decide ((j : Int) < (y : Int)) = true := by simp; omega
          have hi : j < (Fo.part s.data.toList j).length := by rw [part_length]; omega
          have ci := HJ.cell j hi
          have fi := HJ.free j hi
          rw [part_get _ _ (by omega)] at ci
          have HS := HJ.set j hi (lowB (s.data.toList.getD j 0))
          rw [part_set _ _ (by omega)] at HS
          have HS' := Lib.hid HS
          have m5 : (0 : Int) ≤ (j : Int) := by omega
          have m6 : (j : Int) < (s.size : Int) := by omega
          have e3 : IntKind.i64.wrap ((j : Int) + 1) = ((j + 1 : Nat) : Int) := by rw [IntWalk.i64_in _ (by omega)]; omega
          have hnat := low_nat (s.data.toList.getD j 0)
          have hstep : ¬ (65 ≤ (s.data.toList.getD j 0).toNat ∧ (s.data.toList.getD j 0).toNat ≤ 90) → BRow.Is wr 5 g (Fo.part s.data.toList (j + 1)) := fun hh => by
            rw [← part_set _ _ (by omega)]
            have e : lowB (s.data.toList.getD j 0) = s.data.toList.getD j 0 := if_neg hh
            rw [e]
            have : (Fo.part s.data.toList j).set j (s.data.toList.getD j 0) = Fo.part s.data.toList j := by
              rw [← part_get s.data.toList j (by omega)]
              rw [List.getD_eq_getElem?_getD, List.getElem?_eq_getElem hi]
              simp
            rw [this]
            exact HJ'.out
          have HSTEP := Lib.hid hstep
          clear hstep HS HJ HBJ
          generalize s.data.toList.getD j 0 = u at *
          by_cases u1 : 65 ≤ u.toNat
          · have p1 : decide ((65 : Int) ≤ (u.toNat : Int)) = true := by simp; omega
            by_cases u2 : u.toNat ≤ 90
            · have p2 : decide ((u.toNat : Int) ≤ 90) = true := by simp; omega
              have e4 : IntKind.u8.wrap ((u.toNat : Int) + 32) = ((lowB u).toNat : Int) := by
                rw [hnat, if_pos ⟨u1, u2⟩]
                show (((u.toNat : Int) + 32) % 256) = _
                omega
              have e5 : ((u.toNat : Int) + 32) = ((lowB u).toNat : Int) := by rw [hnat, if_pos ⟨u1, u2⟩]; omega
              have E5 := Lib.hid e5
              clear e5
              go_wp2_with fail
              go_roundg (y - j)
              case measure => omega
              case rel => exact ⟨j + 1, by first | rfl | exact congrArg (Value.int .i64) e3, by omega, by omega, by omega, by first | exact HS'.out | (rw [E5.out]; exact HS'.out), (by first | exact HBJ'.out.setCell (Nat.le_refl _) _)⟩
            · have p2 : decide ((u.toNat : Int) ≤ 90) = false := by simp; omega
              go_wp2_with fail
              go_roundg (y - j)
              case measure => omega
              case rel => exact ⟨j + 1, by first | rfl | exact congrArg (Value.int .i64) e3, by omega, by omega, by omega, HSTEP.out (by omega), HBJ'.out⟩
          · have p1 : decide ((65 : Int) ≤ (u.toNat : Int)) = false := by simp; omega
            go_wp2_with fail
            go_roundg (y - j)
            case measure => omega
            case rel => exact ⟨j + 1, by first | rfl | exact congrArg (Value.int .i64) e3, by omega, by omega, by omega, HSTEP.out (by omega), HBJ'.out⟩
        · have q1 : decide ((j : Int) < (y : Int)) = false := by simp; omega
          obtain rfl : j = y := by omega
          go_wp2_with fail
          go_roundg ((places s).length - 1 - i)
          case measure => have := HI1.out; omega
          case rel => have h1 := HI1.out; subst h1; exact ⟨i + 1, by first | rfl | exact congrArg (Value.int .i64) e0, by omega, by omega, by rw [HY.out]; exact HJ'.out, HBJ'.out⟩
    · have q : decide (((i + 1 : Nat) : Int) < (places s).length) = false := by simp; omega
      have ei : i + 1 = (places s).length := by omega
      have e1 : Fo.part s.data.toList ((places s).getD i 0) = s.data.toList.map lowB := by
        obtain ⟨a1, a2⟩ := HP.out.last
        rw [show (places s).length - 1 = i by omega] at a1 a2
        generalize (places s).getD i 0 = x at *
        have bd := bt_data s x
        rw [a2] at bd
        rw [part_stay _ _ (by omega) (by omega), a1, ← hz, part_all]
      rw [e1] at HI
      have kb := BRow.Is.back (P := Try.prog) HI 55 9 cap s.size Try.underlying55 Try.underlying5 Try.underlying9 (by rw [List.length_map]; exact hz.symm)
      clear HI e1 HB
      go_wp2_with fail
      go_ret
      exact ⟨by unfold foldN; rw [if_pos HN.out]; rfl, Bw.trans (HB'.out.mono HG.out)⟩
end Go.Proofs.Ythlajjcdmhgcmaa.RFo

namespace Go.Proofs.Ythlajjcdmhgcmaa.Sp
open Go.RowKit Go.PlainAid Go.Proofs.Ythlajjcdmhgcmaa.Base Go.Proofs.Ythlajjcdmhgcmaa.Gr
open Go.Proofs.Ythlajjcdmhgcmaa.Fo (foldN)
open Go.Proofs.Ythlajjcdmhgcmaa.RFo (rfoldc)
open Go.Proofs.Ythlajjcdmhgcmaa.Oct (zeros)
open Go.Proofs.YthlajjcdmhgcmaaW.PrintWords (Kd ReadsInt blk_cell blk_below blk_new blk_lt blk_alloc blk_put blk_frozen blk_grown)
set_option linter.unusedVariables false
set_option linter.unusedSimpArgs false
def bools (L : List Bool) : Array Value := (L.map Value.bool).toArray
theorem bools_at {L : List Bool} {q : Nat} (h : q < L.length) : (bools L)[q]? = some (.bool (L.getD q false)) := by
  unfold bools
  rw [List.getElem?_toArray, List.getElem?_map, List.getD_eq_getElem?_getD, List.getElem?_eq_getElem h]; rfl
theorem bools_set (L : List Bool) (q : Nat) : (bools L).setIfInBounds q (.bool true) = bools (L.set q true) := by
  unfold bools
  rw [List.setIfInBounds_toArray, ← List.map_set]
/-- What stands within the first loop. -/
structure G1s (w wr : World) (gn g5 g6 : Nat) (l : List Int) (n : Nat) (v : Value) : Prop where
  row : wr.ownsRow w.heap.size 43 5 v n ((rows l n).flatMap cellsR)
  nms : wr.heap[gn]? = some (.cells namesA 9)
  b5 : wr.heap[g5]? = some (.cells (bools (seen l n)) 52)
  b6 : wr.heap[g6]? = some (.cells (bools (there l n)) 54)
  bel : Below w.heap.size w wr
/-- A row of records of the call's own, as Group reads it. -/
theorem rcells_own {w : World} {base : Nat} {A : Option Addr} {c : Nat} {l : List Rr} (h : w.ownsRow base 43 5 (.slice A l.length c) l.length (l.flatMap cellsR)) : RCells w A l := by
  rcases h.2 with ⟨_, h0⟩ | ⟨g, cap, cur, e, _⟩
  · exact .inl h0
  · injection e with e1 _ e3
    subst e1 e3
    refine .inr ⟨_, rfl, fun j hj => ?_⟩
    have e : l[j]? = some (l.getD j zR) := by rw [List.getD_eq_getElem?_getD, List.getElem?_eq_getElem hj]; rfl
    have hb : (Addr.add ⟨g, 0, none⟩ (j * 5)) = ⟨g, j * 5, none⟩ := by
      unfold Addr.add
      by_cases h0 : j * 5 = 0
      · simp [h0]
      · simp [h0]
    have hg : ∀ i, i < 5 → w.cell? ⟨g, j * 5 + i, none⟩ = (cellsR (l.getD j zR))[i]? := fun i hi => by
      rw [h.cellAt (j * 5 + i) (by omega), flatR_at l j i _ e hi]
    rw [hb]
    exact ⟨(hg 0 (by decide)).trans rfl, (hg 1 (by decide)).trans rfl, (hg 2 (by decide)).trans rfl, (hg 3 (by decide)).trans rfl, (hg 4 (by decide)).trans rfl⟩
def cntU (L : List Bool) (q : Nat) : Nat := (L.take q).count true
theorem cntU_succ {L : List Bool} {q : Nat} (h : q < L.length) : cntU L (q + 1) = cntU L q + if L.getD q false then 1 else 0 := by
  unfold cntU
  rw [List.take_succ_eq_append_getElem h, List.count_append, List.getD_eq_getElem?_getD, List.getElem?_eq_getElem h]
  cases L[q] <;> simp
theorem cntU_le (L : List Bool) (q : Nat) : cntU L q ≤ q := Nat.le_trans List.count_le_length (by rw [List.length_take]; omega)
theorem meas3 {m k : Nat} (h : m + k = 4) (hm : m < 3) : 3 - m < k := by omega
theorem meas2 {m k : Nat} (h : m + k = 3) (hm : m < 2) : 2 - m < k := by omega
theorem meas4 {m k : Nat} (h : m + k = 5) (hm : m < 4) : 4 - m < k := by omega
theorem sum_le : ∀ (l : List SV), (∀ s ∈ l, s.datas.length ≤ 64) → ∀ j, l.length ≤ j → (l.map (fun s => s.datas.length)).sum ≤ 64 * j
  | [], _, j, _ => by simp
  | x :: l, h, j, hj => by
    have h1 := h x List.mem_cons_self
    have h2 := sum_le l (fun s hs => h s (List.mem_cons_of_mem _ hs)) (j - 1) (by rw [List.length_cons] at hj; omega)
    rw [List.length_cons] at hj
    rw [List.map_cons, List.sum_cons]
    omega
theorem meas0 {n m : Nat} (h : n ≤ m) (k : ¬ n < m) : n = m := by omega
theorem fin13 (l : List Int) (n : Nat) (p : Int) (g5 g6 q d : Nat) (w wc : World) {gn k t : Nat} {v : Value} (h5 : w.heap.size ≤ g5) (h6 : w.heap.size ≤ g6) (hne : g5 ≠ g6) (b6 : wc.heap[g6]? = some (.cells (bools (there l n)) 54)) (b5 : wc.heap[g5]? = some (.cells (bools (seen l n)) 52))
    (bn : wc.heap[gn]? = some (.cells namesA 9)) (Bc : Below w.heap.size w wc) (ho : wc.ownsRow w.heap.size 43 5 v (n + 1) ((rows l n).flatMap cellsR ++ cellsR ⟨nm k, ty t, 1, 9, dat t d⟩)) (hr : rec_ p = ⟨nm k, ty t, 1, 9, dat t d⟩) (hp : l.getD n 0 = p) (hi6 : i6 p = q) (hi24 : i24 p = q * 4 + d) :
    G1s w ((wc.setCell ⟨g6, q, none⟩ (.bool true)).setCell ⟨g5, q * 4 + d, none⟩ (.bool true)) gn g5 g6 l (n + 1) v := by
  have n5 : g5 ≠ gn := by rintro rfl; rw [b5] at bn; injection bn with q; injection q with _ q; exact absurd q (by decide)
  have n6 : g6 ≠ gn := by rintro rfl; rw [b6] at bn; injection bn with q; injection q with _ q; exact absurd q (by decide)
  refine ⟨?_, ?_, ?_, ?_, (Bc.setCell (p := ⟨g6, q, none⟩) h6 _).setCell (p := ⟨g5, q * 4 + d, none⟩) h5 _⟩
  · have hro : wc.ownsRow w.heap.size 43 5 v (n + 1) ((rows l (n + 1)).flatMap cellsR) := by
      rw [rows_succ, List.flatMap_append, List.flatMap_cons, List.flatMap_nil, List.append_nil, hp, hr]; exact ho
    exact Go.Proofs.YthlajjcdmhgcmaaW.PrintWords.own_setCell (Go.Proofs.YthlajjcdmhgcmaaW.PrintWords.own_setCell hro (own_other hro b6 (by decide)) _) (own_other (Go.Proofs.YthlajjcdmhgcmaaW.PrintWords.own_setCell hro (own_other hro b6 (by decide)) _) (k := g5) (cs := bools (seen l n)) (t := 52) (fr := (0, 0)) (blk_set_ne (p := ⟨g6, q, none⟩) b5 hne (.bool true)) (by decide)) _
  · exact blk_set_ne (blk_set_ne bn n6.symm _) n5.symm _
  · have h1 : (wc.setCell ⟨g6, q, none⟩ (.bool true)).heap[g5]? = _ := blk_set_ne b5 hne _
    have := blk_put h1 (q * 4 + d) (.bool true) rfl
    rw [bools_set] at this
    unfold seen
    rw [hp, hi24]; exact this
  · have h1 := blk_put b6 q (.bool true) rfl
    rw [bools_set] at h1
    have : (wc.setCell ⟨g6, q, none⟩ (.bool true)).heap[g6]? = some (.cells (bools (there l (n + 1))) 54) := by unfold there; rw [hp, hi6]; exact h1
    exact blk_set_ne this hne.symm _
set_option maxHeartbeats 4000000 in
set_option maxRecDepth 100000 in
theorem splitsc (l : List Int) (A : Option Addr) (c : Nat) (w : World) (hr : ReadsInt w .i64 A l.length l) :
    Calls Try.prog 7 #[.slice A l.length c] w fun e w' => e = .returned (.bool true) ∧ Below w.heap.size w w' := by
  have HR := Lib.hid hr
  have hL : l.length ≤ 9223372036854775807 := hr.2.1
  clear hr
  go_enter Try.func7, Try.ntmps7
  go_wp2_with fail
  refine (awake11 _).mono ?_
  rintro e w1 ⟨rfl, B1⟩
  go_upto_block 0 with (fail)
  have bn := blk_alloc (blk_alloc (blk_new w1 (.cells namesA 9)) (.cells (bools (seen l 0)) 52)) (.cells (bools (there l 0)) 54)
  have b5 := blk_alloc (blk_new (w1.alloc (.cells namesA 9)) (.cells (bools (seen l 0)) 52)) (.cells (bools (there l 0)) 54)
  have b6 := blk_new ((w1.alloc (.cells namesA 9)).alloc (.cells (bools (seen l 0)) 52)) (.cells (bools (there l 0)) 54)
  have B2 := below_al (below_al (below_al B1 (.cells namesA 9)) (.cells (bools (seen l 0)) 52)) (.cells (bools (there l 0)) 54)
  have gn0 : w.heap.size ≤ w1.heap.size := B1.size
  have gn5 : w.heap.size ≤ w1.heap.size + 1 := Nat.le_succ_of_le gn0
  have gn6 : w.heap.size ≤ w1.heap.size + 1 + 1 := Nat.le_succ_of_le gn5
  change _ at b5
  have b5' : (((w1.alloc (.cells namesA 9)).alloc (.cells (bools (seen l 0)) 52)).alloc (.cells (bools (there l 0)) 54)).heap[w1.heap.size + 1]? = some (.cells (bools (seen l 0)) 52) := by simpa using b5
  have b6' : (((w1.alloc (.cells namesA 9)).alloc (.cells (bools (seen l 0)) 52)).alloc (.cells (bools (there l 0)) 54)).heap[w1.heap.size + 1 + 1]? = some (.cells (bools (there l 0)) 54) := by simpa using b6
  clear b5 b6 B1
  change Code.wp _ _ _ _ (((w1.alloc (.cells namesA 9)).alloc (.cells (bools (seen l 0)) 52)).alloc (.cells (bools (there l 0)) 54))
  generalize ((w1.alloc (.cells namesA 9)).alloc (.cells (bools (seen l 0)) 52)).alloc (.cells (bools (there l 0)) 54) = wa at *
  generalize w1.heap.size + 1 + 1 = g6 at *
  generalize w1.heap.size + 1 = g5 at *
  generalize w1.heap.size = gn at *
  have HG := Lib.hid (And.intro gn0 (And.intro gn5 gn6))
  clear gn0 gn5 gn6
  go_cut [4] (fun v4 wc => ∃ n : Nat, n = min l.length 64 ∧ G1s w wc gn g5 g6 l n v4)
  case first =>
    go_wp2_with fail
    go_loopg [4, 7] (min l.length 64 + 1) (fun k v4 v7 wr => ∃ n : Nat, v7 = .int .i64 n ∧ n + k = min l.length 64 + 1 ∧ n ≤ min l.length 64 ∧ G1s w wr gn g5 g6 l n v4)
    case atStart => exact ⟨0, rfl, by omega, by omega, ⟨⟨rfl, .inl ⟨rfl, rfl⟩⟩, bn, b5', b6', B2⟩⟩
    case round =>
      obtain ⟨n, rfl, hn1, hn2, H1⟩ := hrel
      clear bn b5' b6' B2
      by_cases hn : n < min l.length 64
      case neg =>
        have hn9 := meas0 hn2 hn
        by_cases hnl : n < l.length
        · have q1 : decide ((n : Int) < (l.length : Int)) = true := by simp; omega
          have q2 : decide ((n : Int) < 64) = false := by simp; omega
          go_wp2_with fail
          go_meet
          case rel => exact ⟨n, hn9, H1⟩
        · have q1 : decide ((n : Int) < (l.length : Int)) = false := by simp; omega
          go_wp2_with fail
          go_meet
          case rel => exact ⟨n, hn9, H1⟩
      obtain ⟨_, _, hrc⟩ := HR.out
      obtain ⟨ad, rfl, hat⟩ := hrc (by omega)
      have q1 : decide ((n : Int) < (l.length : Int)) = true := by simp; omega
      have q2 : decide ((n : Int) < 64) = true := by simp; omega
      have hp := bcell H1.bel (hat n (by omega))
      clear hrc hat
      generalize hP : l.getD n 0 = p at hp
      have HP := Lib.hid hP
      clear hP
      have hn3 : n < l.length := by omega
      go_upto_region 13 with (fail)
      have e3 : Go.bits .and .i64 p 3 = ((kN p : Nat) : Int) := by rw [Pu.and_3]; unfold kN; omega
      have e1 : Go.bits .and .i64 (p / 4) 1 = ((tN p : Nat) : Int) := by rw [Pu.and_1]; unfold tN; omega
      have e8 : Go.bits .and .i64 (p / 8) 3 = ((dN p : Nat) : Int) := by rw [Pu.and_3]; unfold dN; omega
      have hk4 := kN_lt p
      have ht2 := tN_lt p
      have hd4 := dN_lt p
      have H24 : i24 p = (mk (kN p) * 2 + tN p) * 4 + dN p := rfl
      have H6 : i6 p = mk (kN p) * 2 + tN p := rfl
      have HREC : rec_ p = ⟨nm (kN p), ty (tN p), 1, 9, dat (tN p) (dN p)⟩ := rfl
      rw [e3, e1]
      have HE := Lib.hid (And.intro H24 (And.intro H6 HREC))
      clear H24 H6 HREC e3 e1
      generalize kN p = k at *
      generalize tN p = t at *
      generalize dN p = d at *
      obtain ⟨A4, c4, rfl⟩ := Sl.own_slice H1.row
      go_cut [4] (fun v4 wc => wc.ownsRow w.heap.size 43 5 v4 (n + 1) ((rows l n).flatMap cellsR ++ cellsR ⟨nm k, ty t, 1, 9, dat t d⟩) ∧ wc.heap[gn]? = some (.cells namesA 9) ∧ wc.heap[g5]? = some (.cells (bools (seen l n)) 52) ∧ wc.heap[g6]? = some (.cells (bools (there l n)) 54) ∧ Below w.heap.size w wc)
      case first =>
        rename_i J K' hJ hK
        have hb0 : w.heap.size ≤ wr.heap.size := H1.bel.size
        refine region13 (A4 := A4) (c4 := c4) (n := n) (gn := gn) (k := k) (t := t) (d := d) (p := p) (xs := (rows l n).flatMap cellsR) (base := w.heap.size) hk4 ht2 hd4 e8 (by rfl) (by rfl) (by rfl) (by rfl) (by rfl) (by rfl) H1.row hb0 (by omega) H1.nms ?_
        intro a wc ha ho hg
        have hr3 : Value.ownBlock (.slice A4 n c4) = Value.ownBlock (.slice A4 n c4) := rfl
        have b5' := blk_grown H1.b5 hg (own_other H1.row H1.b5 (by decide))
        have b6' := blk_grown H1.b6 hg (own_other H1.row H1.b6 (by decide))
        have bn' := blk_grown H1.nms hg (own_other H1.row H1.nms (by decide))
        have B' := H1.bel.grown hg hb0 (Sl.own_base H1.row)
        rw [ha]
        dsimp only [D13]
        simp only [List.foldl_cons, List.foldl_nil, List.setIfInBounds_toArray, List.set_cons_succ, List.set_cons_zero]
        refine hK _ _ (Met.intro (hJ _ _ ?_))
        repeat apply Exists.intro
        refine ⟨?rel, rfl⟩
        case rel => exact ⟨ho, bn', b5', b6', B'⟩
      case rest =>
        obtain ⟨ho, bn, b5, b6, Bc⟩ := hcut
        have hgs := And.intro HG.out.2.1 HG.out.2.2
        have hne : g5 ≠ g6 := by
          rintro rfl
          rw [b5] at b6
          injection b6 with q
          injection q with _ q
          exact absurd q (by decide)
        have hnes : ¬ g5 = g6 := hne
        have hnes2 : ¬ g6 = g5 := fun e => hne e.symm
        have d0 : decide ((d : Int) < 4) = true := by simp; omega
        have hgs2 := Lib.hid hgs
        have e8b : Go.bits .and .i64 (p / 8) 3 = (d : Int) := e8
        clear H1 hgs
        have hgs := hgs2.out
        replace ho := ho.alloc (.cells #[.int .i64 0, .int .i64 0, .int .i64 1, .int .i64 2] 3)
        replace bn := blk_alloc bn (.cells #[.int .i64 0, .int .i64 0, .int .i64 1, .int .i64 2] 3)
        replace b5 := blk_alloc b5 (.cells #[.int .i64 0, .int .i64 0, .int .i64 1, .int .i64 2] 3)
        replace b6 := blk_alloc b6 (.cells #[.int .i64 0, .int .i64 0, .int .i64 1, .int .i64 2] 3)
        replace Bc := below_al Bc (.cells #[.int .i64 0, .int .i64 0, .int .i64 1, .int .i64 2] 3)
        have hkt : (k = 0 ∨ k = 1 ∨ k = 2 ∨ k = 3) ∧ (t = 0 ∨ t = 1) := ⟨by omega, by omega⟩
        rcases hkt with ⟨rfl | rfl | rfl | rfl, rfl | rfl⟩
        -- CASES
        · go_upto_region 15 with (fail)
          generalize wc.alloc (.cells #[.int .i64 0, .int .i64 0, .int .i64 1, .int .i64 2] 3) = wm at *
          have c6 : wm.cell? ⟨g6, 0, none⟩ = some (.bool ((there l n).getD 0 false)) := (blk_cell b6 0).trans (bools_at (by rw [there_len]; decide))
          have f6 := blk_frozen b6 0
          have b5s : (wm.setCell ⟨g6, 0, none⟩ (.bool true)).heap[g5]? = _ := blk_set_ne b5 hne _
          have c5 : (wm.setCell ⟨g6, 0, none⟩ (.bool true)).cell? ⟨g5, d, none⟩ = some (.bool ((seen l n).getD (d) false)) := (blk_cell b5s (d)).trans (bools_at (by rw [seen_len]; omega))
          have f5 := blk_frozen b5s (d)
          go_wp2_with fail
          go_roundg (min l.length 64 - n)
          case measure => exact meas hn1 hn
          case rel =>
            have hF := fin13 l n p g5 g6 0 d w wm hgs.1 hgs.2 hne b6 b5 bn Bc ho HE.out.2.2 HP.out HE.out.2.1 HE.out.1
            exact ⟨n + 1, by rfl, (by have := meas hn1 hn; omega), hn, by simpa using hF⟩
        · go_upto_region 15 with (fail)
          generalize wc.alloc (.cells #[.int .i64 0, .int .i64 0, .int .i64 1, .int .i64 2] 3) = wm at *
          have c6 : wm.cell? ⟨g6, 1, none⟩ = some (.bool ((there l n).getD 1 false)) := (blk_cell b6 1).trans (bools_at (by rw [there_len]; decide))
          have f6 := blk_frozen b6 1
          have b5s : (wm.setCell ⟨g6, 1, none⟩ (.bool true)).heap[g5]? = _ := blk_set_ne b5 hne _
          have c5 : (wm.setCell ⟨g6, 1, none⟩ (.bool true)).cell? ⟨g5, 4 + d, none⟩ = some (.bool ((seen l n).getD (4 + d) false)) := (blk_cell b5s (4 + d)).trans (bools_at (by rw [seen_len]; omega))
          have f5 := blk_frozen b5s (4 + d)
          go_wp2_with fail
          go_roundg (min l.length 64 - n)
          case measure => exact meas hn1 hn
          case rel =>
            have hF := fin13 l n p g5 g6 1 d w wm hgs.1 hgs.2 hne b6 b5 bn Bc ho HE.out.2.2 HP.out HE.out.2.1 HE.out.1
            exact ⟨n + 1, by rfl, (by have := meas hn1 hn; omega), hn, by simpa using hF⟩
        · go_upto_region 15 with (fail)
          generalize wc.alloc (.cells #[.int .i64 0, .int .i64 0, .int .i64 1, .int .i64 2] 3) = wm at *
          have c6 : wm.cell? ⟨g6, 0, none⟩ = some (.bool ((there l n).getD 0 false)) := (blk_cell b6 0).trans (bools_at (by rw [there_len]; decide))
          have f6 := blk_frozen b6 0
          have b5s : (wm.setCell ⟨g6, 0, none⟩ (.bool true)).heap[g5]? = _ := blk_set_ne b5 hne _
          have c5 : (wm.setCell ⟨g6, 0, none⟩ (.bool true)).cell? ⟨g5, d, none⟩ = some (.bool ((seen l n).getD (d) false)) := (blk_cell b5s (d)).trans (bools_at (by rw [seen_len]; omega))
          have f5 := blk_frozen b5s (d)
          go_wp2_with fail
          go_roundg (min l.length 64 - n)
          case measure => exact meas hn1 hn
          case rel =>
            have hF := fin13 l n p g5 g6 0 d w wm hgs.1 hgs.2 hne b6 b5 bn Bc ho HE.out.2.2 HP.out HE.out.2.1 HE.out.1
            exact ⟨n + 1, by rfl, (by have := meas hn1 hn; omega), hn, by simpa using hF⟩
        · go_upto_region 15 with (fail)
          generalize wc.alloc (.cells #[.int .i64 0, .int .i64 0, .int .i64 1, .int .i64 2] 3) = wm at *
          have c6 : wm.cell? ⟨g6, 1, none⟩ = some (.bool ((there l n).getD 1 false)) := (blk_cell b6 1).trans (bools_at (by rw [there_len]; decide))
          have f6 := blk_frozen b6 1
          have b5s : (wm.setCell ⟨g6, 1, none⟩ (.bool true)).heap[g5]? = _ := blk_set_ne b5 hne _
          have c5 : (wm.setCell ⟨g6, 1, none⟩ (.bool true)).cell? ⟨g5, 4 + d, none⟩ = some (.bool ((seen l n).getD (4 + d) false)) := (blk_cell b5s (4 + d)).trans (bools_at (by rw [seen_len]; omega))
          have f5 := blk_frozen b5s (4 + d)
          go_wp2_with fail
          go_roundg (min l.length 64 - n)
          case measure => exact meas hn1 hn
          case rel =>
            have hF := fin13 l n p g5 g6 1 d w wm hgs.1 hgs.2 hne b6 b5 bn Bc ho HE.out.2.2 HP.out HE.out.2.1 HE.out.1
            exact ⟨n + 1, by rfl, (by have := meas hn1 hn; omega), hn, by simpa using hF⟩
        · go_upto_region 15 with (fail)
          generalize wc.alloc (.cells #[.int .i64 0, .int .i64 0, .int .i64 1, .int .i64 2] 3) = wm at *
          have c6 : wm.cell? ⟨g6, 2, none⟩ = some (.bool ((there l n).getD 2 false)) := (blk_cell b6 2).trans (bools_at (by rw [there_len]; decide))
          have f6 := blk_frozen b6 2
          have b5s : (wm.setCell ⟨g6, 2, none⟩ (.bool true)).heap[g5]? = _ := blk_set_ne b5 hne _
          have c5 : (wm.setCell ⟨g6, 2, none⟩ (.bool true)).cell? ⟨g5, 8 + d, none⟩ = some (.bool ((seen l n).getD (8 + d) false)) := (blk_cell b5s (8 + d)).trans (bools_at (by rw [seen_len]; omega))
          have f5 := blk_frozen b5s (8 + d)
          go_wp2_with fail
          go_roundg (min l.length 64 - n)
          case measure => exact meas hn1 hn
          case rel =>
            have hF := fin13 l n p g5 g6 2 d w wm hgs.1 hgs.2 hne b6 b5 bn Bc ho HE.out.2.2 HP.out HE.out.2.1 HE.out.1
            exact ⟨n + 1, by rfl, (by have := meas hn1 hn; omega), hn, by simpa using hF⟩
        · go_upto_region 15 with (fail)
          generalize wc.alloc (.cells #[.int .i64 0, .int .i64 0, .int .i64 1, .int .i64 2] 3) = wm at *
          have c6 : wm.cell? ⟨g6, 3, none⟩ = some (.bool ((there l n).getD 3 false)) := (blk_cell b6 3).trans (bools_at (by rw [there_len]; decide))
          have f6 := blk_frozen b6 3
          have b5s : (wm.setCell ⟨g6, 3, none⟩ (.bool true)).heap[g5]? = _ := blk_set_ne b5 hne _
          have c5 : (wm.setCell ⟨g6, 3, none⟩ (.bool true)).cell? ⟨g5, 12 + d, none⟩ = some (.bool ((seen l n).getD (12 + d) false)) := (blk_cell b5s (12 + d)).trans (bools_at (by rw [seen_len]; omega))
          have f5 := blk_frozen b5s (12 + d)
          go_wp2_with fail
          go_roundg (min l.length 64 - n)
          case measure => exact meas hn1 hn
          case rel =>
            have hF := fin13 l n p g5 g6 3 d w wm hgs.1 hgs.2 hne b6 b5 bn Bc ho HE.out.2.2 HP.out HE.out.2.1 HE.out.1
            exact ⟨n + 1, by rfl, (by have := meas hn1 hn; omega), hn, by simpa using hF⟩
        · go_upto_region 15 with (fail)
          generalize wc.alloc (.cells #[.int .i64 0, .int .i64 0, .int .i64 1, .int .i64 2] 3) = wm at *
          have c6 : wm.cell? ⟨g6, 4, none⟩ = some (.bool ((there l n).getD 4 false)) := (blk_cell b6 4).trans (bools_at (by rw [there_len]; decide))
          have f6 := blk_frozen b6 4
          have b5s : (wm.setCell ⟨g6, 4, none⟩ (.bool true)).heap[g5]? = _ := blk_set_ne b5 hne _
          have c5 : (wm.setCell ⟨g6, 4, none⟩ (.bool true)).cell? ⟨g5, 16 + d, none⟩ = some (.bool ((seen l n).getD (16 + d) false)) := (blk_cell b5s (16 + d)).trans (bools_at (by rw [seen_len]; omega))
          have f5 := blk_frozen b5s (16 + d)
          go_wp2_with fail
          go_roundg (min l.length 64 - n)
          case measure => exact meas hn1 hn
          case rel =>
            have hF := fin13 l n p g5 g6 4 d w wm hgs.1 hgs.2 hne b6 b5 bn Bc ho HE.out.2.2 HP.out HE.out.2.1 HE.out.1
            exact ⟨n + 1, by rfl, (by have := meas hn1 hn; omega), hn, by simpa using hF⟩
        · go_upto_region 15 with (fail)
          generalize wc.alloc (.cells #[.int .i64 0, .int .i64 0, .int .i64 1, .int .i64 2] 3) = wm at *
          have c6 : wm.cell? ⟨g6, 5, none⟩ = some (.bool ((there l n).getD 5 false)) := (blk_cell b6 5).trans (bools_at (by rw [there_len]; decide))
          have f6 := blk_frozen b6 5
          have b5s : (wm.setCell ⟨g6, 5, none⟩ (.bool true)).heap[g5]? = _ := blk_set_ne b5 hne _
          have c5 : (wm.setCell ⟨g6, 5, none⟩ (.bool true)).cell? ⟨g5, 20 + d, none⟩ = some (.bool ((seen l n).getD (20 + d) false)) := (blk_cell b5s (20 + d)).trans (bools_at (by rw [seen_len]; omega))
          have f5 := blk_frozen b5s (20 + d)
          go_wp2_with fail
          go_roundg (min l.length 64 - n)
          case measure => exact meas hn1 hn
          case rel =>
            have hF := fin13 l n p g5 g6 5 d w wm hgs.1 hgs.2 hne b6 b5 bn Bc ho HE.out.2.2 HP.out HE.out.2.1 HE.out.1
            exact ⟨n + 1, by rfl, (by have := meas hn1 hn; omega), hn, by simpa using hF⟩
        -- ENDCASES
  case rest =>
    obtain ⟨n, hn, H1⟩ := hcut
    clear bn b5' b6' B2
    have hn64 : n ≤ 64 := by omega
    clear hn
    obtain ⟨ss0, hf, hlen, hsum, h64, hss⟩ := final l n hn64
    obtain ⟨A4, c4, rfl⟩ := Sl.own_slice H1.row
    have hrow := H1.row
    have hgc : ∀ W : World, RCells W A4 (rows l n) → Calls Try.prog 10 #[.slice A4 n c4] W fun e w' => ∃ v ss, ss0 = ss.map SV.p ∧ e = .returned (.tuple #[v, .int .i64 0]) ∧ Sets w' W.heap.size v ss ∧ Below W.heap.size W w' := by
      intro W hW
      have := groupc hf c4 hW
      rw [rows_len] at this
      exact this
    have hrc : RCells wc A4 (rows l n) := rcells_own (base := w.heap.size) (c := c4) (by rw [rows_len]; exact hrow)
    have bb5 := H1.b5
    have bb6 := H1.b6
    have BB := H1.bel
    clear H1 hrow hf HR
    go_wp2_with fail
    refine (hgc _ hrc).mono ?_
    rintro e w2 ⟨v, ss, h1, rfl, hS, hb⟩
    replace bb5 := blk_below bb5 hb
    replace bb6 := blk_below bb6 hb
    replace BB := below_up BB hb
    obtain ⟨A5, c5, rfl⟩ := Sl.own_slice hS.own
    clear hgc hrc hb
    have HSS := Lib.hid (And.intro h1 (And.intro hlen (And.intro hsum (And.intro h64 hss))))
    clear h1 hlen hsum h64 hss
    have hT6 := there_len l n
    have hT24 := seen_len l n
    generalize there l n = T6 at *
    generalize seen l n = T24 at *
    have HT := Lib.hid (And.intro hT6 hT24)
    clear hT6 hT24
    go_upto_block 2 with (fail)
    go_cut [14, 15] (fun v14 v15 wd => v14 = .int .i64 (T6.count true : Nat) ∧ v15 = .int .i64 (T24.count true : Nat) ∧ wd = w2)
    case first =>
      clear hS BB
      go_wp2_with fail
      go_loopg [14, 15, 16] 4 (fun k v14 v15 v16 wr => ∃ m : Nat, v16 = .int .i64 m ∧ m + k = 4 ∧ m ≤ 3 ∧ v14 = .int .i64 (cntU T6 (m * 2) : Nat) ∧ v15 = .int .i64 (cntU T24 (m * 8) : Nat) ∧ wr = w2)
      case atStart => exact ⟨0, rfl, rfl, by decide, rfl, rfl, rfl⟩
      case round =>
        obtain ⟨m, rfl, hm1, hm2, rfl, rfl, rfl⟩ := hrel
        by_cases hm : m < 3
        case neg =>
          obtain rfl : m = 3 := by omega
          have e1 : cntU T6 (3 * 2) = T6.count true := by unfold cntU; rw [List.take_of_length_le (by rw [HT.out.1]; decide)]
          have e2 : cntU T24 (3 * 8) = T24.count true := by unfold cntU; rw [List.take_of_length_le (by rw [HT.out.2]; decide)]
          have E1 := Lib.hid e1
          have E2 := Lib.hid e2
          clear e1 e2
          go_wp2_with fail
          go_meet
          case rel => exact ⟨by rw [← E1.out], by rw [← E2.out], rfl⟩
        have q1 : decide ((m : Int) < 3) = true := by simp; omega
        go_wp2_with fail
        go_loopg [14, 15, 17] 3 (fun k v14 v15 v17 w3 => ∃ t : Nat, v17 = .int .i64 t ∧ t + k = 3 ∧ t ≤ 2 ∧ v14 = .int .i64 (cntU T6 (m * 2 + t) : Nat) ∧ v15 = .int .i64 (cntU T24 (m * 8 + t * 4) : Nat) ∧ w3 = wr)
        case atStart => exact ⟨0, rfl, rfl, by decide, rfl, rfl, rfl⟩
        case round =>
          obtain ⟨t, rfl, ht1, ht2, rfl, rfl, rfl⟩ := hrel
          by_cases ht : t < 2
          case neg =>
            obtain rfl : t = 2 := by omega
            have e1 : m * 2 + 2 = (m + 1) * 2 := by omega
            have e2 : m * 8 + 2 * 4 = (m + 1) * 8 := by omega
            rw [e1, e2]
            clear e1 e2
            go_wp2_with fail
            go_roundg (3 - m)
            case measure => exact meas3 hm1 hm
            case rel => exact ⟨m + 1, rfl, (by omega), hm, rfl, rfl, rfl⟩
          have q2 : decide ((t : Int) < 2) = true := by simp; omega
          have c6 : wr.cell? ⟨g6, m * 2 + t, none⟩ = some (.bool (T6.getD (m * 2 + t) false)) := (blk_cell bb6 _).trans (bools_at (by rw [HT.out.1]; omega))
          have s6 := cntU_succ (L := T6) (q := m * 2 + t) (by rw [HT.out.1]; omega)
          have l6 := cntU_le T6 (m * 2 + t)
          have S6 := Lib.hid s6
          clear s6
          generalize T6.getD (m * 2 + t) false = b6 at c6 S6
          go_upto_if 101 with (fail)
          go_cut [14] (fun v14 wd => v14 = .int .i64 (cntU T6 (m * 2 + t + 1) : Nat) ∧ wd = wr)
          case first =>
            cases b6 with
            | true =>
              go_wp2_with fail
              go_meet
              case rel => exact ⟨by rw [S6.out]; rfl, rfl⟩
            | false =>
              go_wp2_with fail
              go_meet
              case rel => exact ⟨by rw [S6.out]; rfl, rfl⟩
          case rest =>
            obtain ⟨rfl, rfl⟩ := hcut
            clear S6 c6 l6
            go_wp2_with fail
            go_loopg [15, 18] 5 (fun k v15 v18 w4 => ∃ d : Nat, v18 = .int .i64 d ∧ d + k = 5 ∧ d ≤ 4 ∧ v15 = .int .i64 (cntU T24 (m * 8 + t * 4 + d) : Nat) ∧ w4 = wc)
            case atStart => exact ⟨0, rfl, rfl, by decide, rfl, rfl⟩
            case round =>
              obtain ⟨d, rfl, hd1, hd2, rfl, rfl⟩ := hrel
              by_cases hd : d < 4
              case neg =>
                obtain rfl : d = 4 := by omega
                have e2 : m * 8 + t * 4 + 4 = m * 8 + (t + 1) * 4 := by omega
                rw [e2]
                clear e2
                go_wp2_with fail
                go_roundg (2 - t)
                case measure => exact meas2 ht1 ht
                case rel => exact ⟨t + 1, rfl, (by omega), ht, rfl, rfl, rfl⟩
              have q3 : decide ((d : Int) < 4) = true := by simp; omega
              have c5 : wr.cell? ⟨g5, m * 8 + t * 4 + d, none⟩ = some (.bool (T24.getD (m * 8 + t * 4 + d) false)) := (blk_cell bb5 _).trans (bools_at (by rw [HT.out.2]; omega))
              have s5 := cntU_succ (L := T24) (q := m * 8 + t * 4 + d) (by rw [HT.out.2]; omega)
              have l5 := cntU_le T24 (m * 8 + t * 4 + d)
              have S5 := Lib.hid s5
              clear s5
              generalize T24.getD (m * 8 + t * 4 + d) false = b5 at c5 S5
              cases b5 with
              | true =>
                go_wp2_with fail
                go_roundg (4 - d)
                case measure => exact meas4 hd1 hd
                case rel => exact ⟨d + 1, rfl, (by omega), hd, (by rw [show m * 8 + t * 4 + (d + 1) = m * 8 + t * 4 + d + 1 from rfl, S5.out]; rfl), rfl⟩
              | false =>
                go_wp2_with fail
                go_roundg (4 - d)
                case measure => exact meas4 hd1 hd
                case rel => exact ⟨d + 1, rfl, (by omega), hd, (by rw [show m * 8 + t * 4 + (d + 1) = m * 8 + t * 4 + d + 1 from rfl, S5.out]; rfl), rfl⟩
    case rest =>
      obtain ⟨rfl, rfl, rfl⟩ := hcut
      obtain ⟨bs, hS0⟩ : ∃ bs, Sets wc bs (.slice A5 ss.length c5) ss := ⟨_, hS⟩
      clear hS bb5 bb6
      obtain ⟨h1, h2, h3, h4, h5⟩ := HSS.out
      have hq1 : ((ss.length : Int) == ((T6.count true : Nat) : Int)) = true := by
        have e : ss.length = T6.count true := by rw [← h2, h1, List.length_map]
        rw [e]; exact beq_self_eq_true _
      have hq2 : (ss.map (fun s => s.datas.length)).sum = T24.count true := by
        rw [← h3, h1, List.map_map]; rfl
      have hall : ∀ s ∈ ss, s.ttl = 9 ∧ foldN s.name = s.name ∧ s.datas.length ≤ 64 := fun s hs => h5 s.p (by rw [h1]; exact List.mem_map.2 ⟨s, hs, rfl⟩)
      have hl64 : ss.length ≤ 64 := by rw [h1, List.length_map] at h4; exact h4
      have HQ := Lib.hid (And.intro hq1 (And.intro hq2 hall))
      clear h1 h2 h3 h4 h5 hq1 hq2 hall HSS
      generalize T6.count true = c6 at *
      generalize T24.count true = c24 at *
      go_wp2_with fail
      go_loopg [19, 20] (ss.length + 1) (fun k v19 v20 wr => ∃ j : Nat, v20 = .int .i64 j ∧ j + k = ss.length + 1 ∧ j ≤ ss.length ∧ v19 = .int .i64 (((ss.take j).map (fun s => s.datas.length)).sum : Nat) ∧ Sets wr bs (.slice A5 ss.length c5) ss ∧ Below w.heap.size w wr)
      case atStart => exact ⟨0, rfl, by omega, by omega, rfl, hS0, BB⟩
      case round =>
        obtain ⟨j, rfl, hj1, hj2, rfl, hS, B2⟩ := hrel
        by_cases hj : j < ss.length
        case neg =>
          obtain rfl : j = ss.length := by omega
          have q3 : decide ((ss.length : Int) < (ss.length : Int)) = false := by simp
          have hq1 := HQ.out.1
          have e4 : (((ss.take ss.length).map (fun s => s.datas.length)).sum : Nat) = c24 := by rw [List.take_length]; exact HQ.out.2.1
          rw [e4]
          clear e4
          have hq2 : ((c24 : Int) == (c24 : Int)) = true := beq_self_eq_true _
          go_wp2_with fail
          refine (numc 0 _).mono ?_
          rintro e w3 ⟨rfl, rfl⟩
          go_wp2_with fail
          go_ret
          exact ⟨rfl, B2⟩
        have q3 : decide ((j : Int) < (ss.length : Int)) = true := by simp; omega
        have hi : ss[j]? = some ss[j] := List.getElem?_eq_getElem hj
        have hal := HQ.out.2.2 ss[j] (List.getElem_mem hj)
        have hsum : ((ss.take (j + 1)).map (fun s => s.datas.length)).sum = ((ss.take j).map (fun s => s.datas.length)).sum + ss[j].datas.length := by
          rw [List.take_succ_eq_append_getElem hj, List.map_append, List.sum_append]; simp
        have hle : ((ss.take j).map (fun s => s.datas.length)).sum ≤ 64 * j := sum_le _ (fun s hs => (HQ.out.2.2 s (List.mem_of_mem_take hs)).2.2) j (by rw [List.length_take]; omega)
        generalize ss[j] = s at hi hal hsum
        obtain ⟨sn, st, sl, dv, ds⟩ := s
        obtain ⟨rfl, hfo, hdl⟩ : sl = 9 ∧ foldN sn = sn ∧ ds.length ≤ 64 := hal
        generalize ((ss.take j).map (fun s => s.datas.length)).sum = s19 at *
        have hs19 : s19 ≤ 4096 := by omega
        have HSM := Lib.hid hsum
        clear hsum hle
        have hD : wr.ownsRow bs 9 1 dv ds.length (ds.map Value.string) := hS.each _ (List.mem_of_getElem? hi)
        obtain ⟨Ad, cd, rfl⟩ := Sl.own_slice hD
        obtain ⟨g, cg, rfl5, _, _, _, _⟩ := hS.block hi
        have hS' := hS
        rw [rfl5] at hS'
        have e0 : wr.cell? ⟨g, j * 4, none⟩ = some (.string sn) := hS'.cell hi (j := 0) (by decide)
        have e2 : wr.cell? ⟨g, j * 4 + 2, none⟩ = some (.int .i64 9) := hS'.cell hi (j := 2) (by decide)
        have e3 : wr.cell? ⟨g, j * 4 + 3, none⟩ = some (.slice Ad ds.length cd) := hS'.cell hi (j := 3) (by decide)
        injection rfl5 with r1 r2 r3
        subst r1
        clear r2 r3 hS' hD hi
        have kfo := fun W => rfoldc sn W
        rw [hfo] at kfo
        clear hfo
        have HS := Lib.hid hS
        have HDL := Lib.hid hdl
        clear hS
        go_upto_region 37 with (fail)
        have Re0 := cell_regrown e0
        have Re2 := cell_regrown e2
        have hself : (sn.toList == sn.toList) = true := beq_self_eq_true _
        clear e0 e2 e3
        refine wp_region_quiet_below (by kernel_rfl) (by kernel_rfl) ?_
        repeat (go_big_quiet_step (exact Calls.regrown_of (kfo _)))
        refine wpQuiet_nil ?_
        intro _ hw'
        obtain ⟨⟨dq, osq⟩, hw''⟩ := hw'
        subst hw''
        clear Re0 Re2
        have hb7 := below_regrown wr dq osq
        generalize Go.Sort.grow (redrawn wr dq) osq = w7 at hb7 ⊢
        have B7 := below_up B2 hb7
        have S7 := HS.out.below hb7
        go_wp2_with fail
        go_roundg (ss.length - j)
        case measure => exact meas hj1 hj
        case rel => exact ⟨j + 1, rfl, (by have := meas hj1 hj; omega), hj, (by rw [HSM.out]; rfl), S7, B7⟩
open Go.Proofs.YthlajjcdmhgcmaaW.PrintWords in
theorem splits_row (a0 : Option Addr) (len0 cap0 : Nat) (z0 : List Int) (w : World) (w0 : (a0 = none ∧ len0 = 0 ∧ cap0 = 0 ∧ z0 = []) ∨ ∃ x, a0 = some x ∧ len0 ≤ cap0 ∧ cap0 ≤ maxLen ∧ z0.length = cap0 ∧ (∀ i, i < z0.length → w.cell? (x.add i) = some (.int .i64 (z0.getD i 0))) ∧ ∀ n ∈ z0, (Lit.int .i64 n).wf = true) :
    Calls Try.prog 7 #[.slice a0 len0 cap0] w fun e w' => e = .returned (.bool true) ∧ Below w.heap.size w w' := by
  obtain ⟨l0, rfl, hr0, hm0, hw0, hc0⟩ := ReadsInt.ofRowC w0
  exact splitsc l0 a0 cap0 w hr0
end Go.Proofs.Ythlajjcdmhgcmaa.Sp

namespace Go.Proofs.Ythlajjcdmhgcmaa.groupSplits
open Go.ChangeShapes Go.WideShapes Go.ChangeAt Go.RowKit
open Go.ChangeMaps (open_string shut_string)
set_option linter.unusedVariables false
theorem own : ownKnob Try.prog.godebug = none := by kernel_rfl
theorem laidOut : laidOutB Try.prog = true := by kernel_rfl
def IsRow (k : IntKind) (w : World) (a : Option Addr) (len cap : Nat) (zs : List Int) : Prop :=
  (a = none ∧ len = 0 ∧ cap = 0 ∧ zs = []) ∨
  ∃ x, a = some x ∧ len ≤ cap ∧ cap ≤ maxLen ∧ zs.length = cap ∧ (∀ i, i < zs.length → w.cell? (x.add i) = some (.int k (zs.getD i 0))) ∧ ∀ n ∈ zs, (Lit.int k n).wf = true
set_option maxRecDepth 100000 in
theorem lifted (os : Os) (started : os.Started) (H : Type) (enc : TypeId × Value → H) :
    ReturnsInHanded {} Try.checked os 7 .any (Rows.groupSplitsSpec.pre6 enc Try.prog Try.f7 Rows.groupSplitsRow.domain false) (Rows.groupSplitsSpec.post enc Try.prog Try.f7 false true false false) := by
  refine returnsInHanded_of_change_sized (C := Try.checked) own started (by kernel_rfl) Try.func7
    (ChangeSpec.witness6 (enc := enc) (C := Try.checked) false ⟨#[], #[.slice none 0 0], []⟩ 7 (by kernel_rfl) (by kernel_rfl) (by kernel_rfl) (by kernel_rfl)) ?_
  intro W base args ds gs before hval0 hW hcnd hsz0 _
  have hsz : (DataW.weightsEach Try.prog (Try.f7.params.toList ++ Rows.groupSplitsSpec.plain.varTypes Try.prog) (ds ++ gs)).all (· ≤ reachBytes) = true := hsz0
  have hval : ∀ (j : Nat) t v, Try.f7.params[j]? = some t → args[j]? = some v → Value.okWide Try.prog W .any base t v := hval0
  have hW' := hW
  obtain ⟨p, q, hA0, hV, rfl, hfz, hnd⟩ := hW
  have hA : DataW.TrodAll enc Try.prog W 0 (fun _ => true) true Try.f7.params.toList args.toList ds p := hA0
  rw [Try.params7] at hA hval hsz
  obtain ⟨v0, vs0, d0, ds0, p0, q0, hargs, rfl, rfl, h0, r0⟩ := trodAll_cons hA
  obtain ⟨rfl, rfl, rfl⟩ := trodAll_nil r0
  obtain rfl : args = #[v0] := by cases args; simp_all
  obtain ⟨rfl, rfl⟩ := trodVars_none hV
  obtain ⟨a0, len0, cap0, rfl⟩ := okWide_slice Try.underlying49 (hval 0 49 v0 rfl rfl)
  have k0 := h0
  have lt0 : ∀ x ∈ p0, x.block < W.heap.size := by obtain ⟨m, hm⟩ := k0; exact DataW.trod_lt m _ _ _ hm
  obtain ⟨z0, w0⟩ : ∃ zs, IsRow .i64 W a0 len0 cap0 zs := by
    obtain ⟨fuel, hf⟩ := h0
    rcases open_ints Try.underlying49 Try.underlying3 (by kernel_rfl) hf with ⟨hcs, _⟩ | ⟨x, l, c, zs, hcs, _, hl, hm, hz, _, hcell, hwz⟩
    · simp [Value.cells] at hcs
      obtain ⟨rfl, rfl, rfl⟩ := hcs
      exact ⟨[], .inl ⟨rfl, rfl, rfl, rfl⟩⟩
    · simp [Value.cells] at hcs
      obtain ⟨rfl, rfl, rfl⟩ := hcs
      exact ⟨zs, .inr ⟨_, rfl, hl, hm, by simpa using hz, hcell, hwz⟩⟩
  have y0 : len0 * 8 ≤ 140737488351232 := Go.Proofs.YthlajjcdmhgcmaaW.PrintWords.sized_ints hsz (j := 0) (t := 49) rfl rfl Try.underlying49 Try.underlying3 (by kernel_rfl) (by kernel_rfl) h0
  clear hA0 hval0 hsz0 hsz
  refine (Sp.splits_row a0 len0 cap0 z0 W w0).mono fun e W' ⟨he, bel⟩ => ?_
  subst he
  exact ⟨_, rfl, _, _, _, [], _, [], hW', trodAll_mk1 (shut_bool Try.underlying4 _), (trodAll_cons_mk (Below.trod laidOut (by kernel_rfl) (of_decide_eq_true (by kernel_rfl)) k0 bel lt0) trodAll_mk0), rfl, bel.frame _, fun h => by cases h⟩
theorem over : Rows.groupSplitsRow.holds Try.pinned (OpenSpec.ofChange Rows.groupSplitsSpec) :=
  OpenClaim.holds_of_wide 7 Try.f7 rfl rfl rfl rfl rfl rfl rfl ⟨rfl, rfl, rfl, rfl, rfl⟩ rfl rfl rfl rfl rfl (by kernel_rfl) Try.func7 (by kernel_rfl)
    (of_decide_eq_true (by kernel_rfl)) (by unfold Func.isWrapper; first | (rw [if_pos (by decide +kernel)]; kernel_rfl) | (rw [if_neg (by decide +kernel)]; exact ⟨rfl, rfl⟩))
    (fun os started H enc _ => lifted os started H enc)
theorem proved : Rows.GroupSplitsSaid := over
end Go.Proofs.Ythlajjcdmhgcmaa.groupSplits
namespace Go.Proofs.Ythlajjcdmhgcmaa
/-- The row, under a short name, for the claim. -/
theorem groupSplits_holds : Rows.GroupSplitsSaid := groupSplits.proved
end Go.Proofs.Ythlajjcdmhgcmaa
