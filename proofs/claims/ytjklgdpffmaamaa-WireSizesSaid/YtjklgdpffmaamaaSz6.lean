/- What comp.Name answers, round by round: a label, a pointer, an end, a byte that is none. -/
import Derived.Test.YtjklgdpffmaamaaRows
import Derived.WalkKit
import Derived.ProofKit
import Derived.OpenShut
import Derived.ShutString
import Derived.ChangeOld
import Derived.Below
import Derived.SizedLaws
import Derived.Test.YtjklgdpffmaamaaSz1
import Derived.Test.YtjklgdpffmaamaaSz2
import Derived.Test.YtjklgdpffmaamaaSz3
import Derived.Test.YtjklgdpffmaamaaSz4
import Derived.Test.YtjklgdpffmaamaaSz5
namespace Go.Proofs.Ytjklgdpffmaamaa.PWz
open Go.RowKit Go.Proofs.YtjklgdpffmaamaaW.PrintWords Go.Proofs.YtjklgdpffmaamaaW.PrintLast Go.Proofs.YtjklgdpffmaamaaW.PrintMore
attribute [local go_sem] max2_int min2_int max_two min_two max_three min_three max_four min_four   -- for this text's walks alone
set_option linter.unusedVariables false
set_option linter.unusedSimpArgs false

/-! ### wimplelaw7_many: function 36 -/
def wimplelaw7_many.l0 : Nat → Int → List (S53) → Int → ByteArray → Int → Int → Int → ByteArray → Option ((List (S53)))
  | 0, _, _, _, _, _, _, _, _ => none
  | k + 1, x1, x5, x6, x228000, x228001, x228002, x228003, x228004 => if x6 < x1 then (if x5.length < 2513169434916 then (wimplelaw7_many.l0 k x1 (x5 ++ [(⟨x228000, x228001, x228002, x228003, x228004⟩ : S53)]) (wrap64 (x6 + 1)) x228000 x228001 x228002 x228003 x228004) else (none)) else (some x5)
def wimplelaw7_many.f (k : Nat) (a0_0 : ByteArray) (a0_1 : Int) (a0_2 : Int) (a0_3 : Int) (a0_4 : ByteArray) (a1 : Int) : Option ((List (S53))) := wimplelaw7_many.l0 k a1 ([] : List (S53)) 0 a0_0 a0_1 a0_2 a0_3 a0_4
theorem wimplelaw7_many.mono_l : ∀ k, (∀ y0 y1 y2 y3 y4 y5 y6 y7, LeO (wimplelaw7_many.l0 k y0 y1 y2 y3 y4 y5 y6 y7) (wimplelaw7_many.l0 (k + 1) y0 y1 y2 y3 y4 y5 y6 y7))
  | 0 => fun _ _ _ _ _ _ _ _ r h => by simp [wimplelaw7_many.l0] at h
  | k + 1 => by
    have ih0 := wimplelaw7_many.mono_l k
    · intro y0 y1 y2 y3 y4 y5 y6 y7
      unfold wimplelaw7_many.l0
      repeat' first
      | (with_reducible exact ih0 _ _ _ _ _ _ _ _)
      | (with_reducible exact LeO.refl _)
      | (with_reducible exact LeO.none _)
      | (with_reducible refine LeO.ite ?_ ?_)
      | (with_reducible refine LeO.bind ?_ (fun _ => ?_))
      | exact ih0 _ _ _ _ _ _ _ _
      | exact LeO.none _
      | refine LeO.ite ?_ ?_
      | refine LeO.bind ?_ (fun _ => ?_)
theorem wimplelaw7_many.mono : ∀ a0 a1 a2 a3 a4 a5 k, LeO (wimplelaw7_many.f k a0 a1 a2 a3 a4 a5) (wimplelaw7_many.f (k + 1) a0 a1 a2 a3 a4 a5) := by
  intro a0 a1 a2 a3 a4 a5 k
  have ih0 := wimplelaw7_many.mono_l k
  unfold wimplelaw7_many.f
  repeat' first
      | (with_reducible exact ih0 _ _ _ _ _ _ _ _)
      | (with_reducible exact LeO.refl _)
      | (with_reducible exact LeO.none _)
      | (with_reducible refine LeO.ite ?_ ?_)
      | (with_reducible refine LeO.bind ?_ (fun _ => ?_))
      | exact ih0 _ _ _ _ _ _ _ _
      | exact LeO.none _
      | refine LeO.ite ?_ ?_
      | refine LeO.bind ?_ (fun _ => ?_)
set_option maxHeartbeats 8000000 in
set_option maxRecDepth 100000 in
theorem wimplelaw7_many.calls (k : Nat) (a0_0 : ByteArray) (a0_1 : Int) (a0_2 : Int) (a0_3 : Int) (a0_4 : ByteArray) (a1 : Int) (r : List (S53)) (w : World) (h : wimplelaw7_many.f k a0_0 a0_1 a0_2 a0_3 a0_4 a1 = some r) :
    Calls Try.prog 36 #[.agg #[.string a0_0, .int .i64 a0_1, .int .i64 a0_2, .int .i64 a0_3, .string a0_4], .int .i64 a1] w fun e w' => ∃ v0_ : Value, e = .returned (v0_) ∧ Kd.R k53 53 w' w.heap.size (fun _ => True) v0_ r ∧ Below w.heap.size w w' := by
  have hu53 := Try.underlying53
  have HB := Aside0.mk (Below.refl w.heap.size w)
  have H : (wimplelaw7_many.l0 k a1 ([] : List (S53)) 0 a0_0 a0_1 a0_2 a0_3 a0_4) = some r := h
  clear h
  have H' := Aside0.mk H
  clear H
  go_enter Try.func36, Try.ntmps36
  go_wp2_with (first | ((with_reducible refine gate_dst (N := 2) rfl ?_); refine box_event ?hg (N := 2) ?hd (cs := #[.string a0_0, .int .i64 a0_1, .int .i64 a0_2, .int .i64 a0_3, .string a0_4]) (t := 53) ?hr ?_; (case hd => rfl); (case hg => rfl); (case hr => first | (go_simp; done) | (go_simp; rfl)); intro gb227 hg w3 hbox hb; have n0_ := Aside0.mk (below_step (by repeat (first | (with_reducible first | exact HB.out | apply below_alloc | apply pw_below_drewN | apply below_drew1) | exact HB.out)) hb); have n1_ := Aside0.mk (hbox); have n2_ := Aside0.mk ((by rw [hg]; exact (below_size (by repeat (first | (with_reducible first | exact HB.out | apply below_alloc | apply pw_below_drewN | apply below_drew1) | exact HB.out))) : w.heap.size ≤ gb227)); have n3_ := Aside0.mk ((by rw [hg]; exact (below_size (by repeat (first | (with_reducible first | exact HB.out | apply below_alloc | apply pw_below_drewN | apply below_drew1) | exact HB.out))) : w.heap.size ≤ gb227)); clear HB; have HB := n0_; have BK227 := n1_; have GW227 := n2_; have GE227 := n3_; clear n0_ n1_ n2_ n3_; clear hb hbox hg))
  go_loopg [5, 6] k (fun kq v5 v6 w' => ∃ (x5_1 : List (S53)) (x6_1 : Int), v6 = .int .i64 x6_1 ∧ Aside0 (wimplelaw7_many.l0 kq a1 x5_1 x6_1 a0_0 a0_1 a0_2 a0_3 a0_4 = some r) ∧ Aside0 (kq ≤ k) ∧ Aside0 (Kd.R k53 53 w' w.heap.size (fun k_ => k_ ≠ gb227) v5 x5_1) ∧ Aside0 (w'.heap[gb227]? = some (.cells #[.string a0_0, .int .i64 a0_1, .int .i64 a0_2, .int .i64 a0_3, .string a0_4] 53 (0, 0))) ∧ Aside0 (Below w.heap.size w w'))
  case atStart => exact ⟨(([] : List (S53))), (0), (by first | rfl | (simp; done) | (simp [*]; done)), H', ⟨Nat.le_refl _⟩, ⟨by first | exact Kd.R_nil _ _ _ _ _ | exact Kd.N_nil _ _ _ _ _ | exact Kd.V_nil _ _ _ _ _ | exact Kd.Q_nil _ _ _ _ _ | exact Kd.S_nil _ _ _ _ _⟩, ⟨by (with_reducible repeat (first | refine blk_drewN ?_ _ | refine blk_drew ?_ | refine blk_alloc ?_ _)); exact BK227.out⟩, ⟨by repeat (first | (with_reducible first | exact HB.out | apply below_alloc | apply pw_below_drewN | apply below_drew1 | refine below_set ?_ GE227.out) | exact HB.out)⟩⟩
  case round =>
    clear H'
    try clear p2
    try clear c3
    obtain ⟨x5_1, x6_1, rfl, HA, HK1, HO_5, BK227, HB⟩ := hrel
    cases gk with
    | zero => exact absurd HA.out (by simp [wimplelaw7_many.l0])
    | succ k1 =>
      have H := HA.out
      clear HA
      simp only [wimplelaw7_many.l0] at H
      by_cases c4 : x6_1 < a1
      · rw [if_pos c4] at H
        have c4b0 : decide (x6_1 < a1) = true := decide_eq_true c4
        clear c4
        by_cases c5 : x5_1.length < 2513169434916
        · rw [if_pos c5] at H
          have LMc5 := Aside0.mk c5
          clear c5
          obtain ⟨y228, hy228⟩ : ∃ y_ : List (S53), y_ = (x5_1 ++ [(⟨a0_0, a0_1, a0_2, a0_3, a0_4⟩ : S53)]) := ⟨_, rfl⟩
          replace H : (wimplelaw7_many.l0 k1 a1 y228 (wrap64 (x6_1 + 1)) a0_0 a0_1 a0_2 a0_3 a0_4) = some r := by first | (rw [hy228]; with_reducible exact H) | (have H2_ := (Option.bind_some _ _).symm.trans H; rw [hy228]; with_reducible exact H2_) | (have H2_ := (Option.bind_some _ _).symm.trans H; with_reducible exact H2_) | with_reducible exact H | (rw [hy228]; exact H) | exact H
          have Ny228 := Aside0.mk hy228
          clear hy228
          have H' := Aside0.mk H
          clear H
          (try clear hcz27_0 hcz27_1 hcz27_2 hcz27_3 hcz27_4 hcz27_5 hcz27_6 hcz27_7 hcz27_8 hcz27_9 hcz27_10 hcz27_11 hcz27_12 hfz27_0 hfz27_1 hfz27_2 hfz27_3 hfz27_4 hfz27_5 hfz27_6 hfz27_7 hfz27_8 hfz27_9 hfz27_10 hfz27_11 hfz27_12)
          (try clear hcz32_0 hcz32_1 hcz32_2 hcz32_3 hcz32_4 hcz32_5 hcz32_6 hcz32_7 hcz32_8 hcz32_9 hcz32_10 hcz32_11 hcz32_12 hfz32_0 hfz32_1 hfz32_2 hfz32_3 hfz32_4 hfz32_5 hfz32_6 hfz32_7 hfz32_8 hfz32_9 hfz32_10 hfz32_11 hfz32_12)
          (try clear hcz41_0 hcz41_1 hcz41_2 hcz41_3 hcz41_4 hcz41_5 hcz41_6 hcz41_7 hcz41_8 hcz41_9 hcz41_10 hcz41_11 hcz41_12 hfz41_0 hfz41_1 hfz41_2 hfz41_3 hfz41_4 hfz41_5 hfz41_6 hfz41_7 hfz41_8 hfz41_9 hfz41_10 hfz41_11 hfz41_12)
          (try clear hcz58_0 hcz58_1 hcz58_2 hcz58_3 hcz58_4 hcz58_5 hcz58_6 hcz58_7 hcz58_8 hcz58_9 hcz58_10 hcz58_11 hcz58_12 hfz58_0 hfz58_1 hfz58_2 hfz58_3 hfz58_4 hfz58_5 hfz58_6 hfz58_7 hfz58_8 hfz58_9 hfz58_10 hfz58_11 hfz58_12)
          (try clear hcz63_0 hcz63_1 hcz63_2 hcz63_3 hcz63_4 hcz63_5 hcz63_6 hcz63_7 hcz63_8 hcz63_9 hcz63_10 hcz63_11 hcz63_12 hfz63_0 hfz63_1 hfz63_2 hfz63_3 hfz63_4 hfz63_5 hfz63_6 hfz63_7 hfz63_8 hfz63_9 hfz63_10 hfz63_11 hfz63_12)
          (try clear hcz64_0 hcz64_1 hcz64_2 hcz64_3 hcz64_4 hcz64_5 hcz64_6 hcz64_7 hcz64_8 hcz64_9 hcz64_10 hcz64_11 hcz64_12 hfz64_0 hfz64_1 hfz64_2 hfz64_3 hfz64_4 hfz64_5 hfz64_6 hfz64_7 hfz64_8 hfz64_9 hfz64_10 hfz64_11 hfz64_12)
          have hcz6_0 : wr.cell? ⟨gb227, 0, none⟩ = some (.string a0_0) := (blk_cell BK227.out 0).trans rfl
          have hcz6_1 : wr.cell? ⟨gb227, 1, none⟩ = some (.int .i64 a0_1) := (blk_cell BK227.out 1).trans rfl
          have hcz6_2 : wr.cell? ⟨gb227, 2, none⟩ = some (.int .i64 a0_2) := (blk_cell BK227.out 2).trans rfl
          have hcz6_3 : wr.cell? ⟨gb227, 3, none⟩ = some (.int .i64 a0_3) := (blk_cell BK227.out 3).trans rfl
          have hcz6_4 : wr.cell? ⟨gb227, 4, none⟩ = some (.string a0_4) := (blk_cell BK227.out 4).trans rfl
          have hfz6_0 := blk_frozen BK227.out 0
          have hfz6_1 := blk_frozen BK227.out 1
          have hfz6_2 := blk_frozen BK227.out 2
          have hfz6_3 := blk_frozen BK227.out 3
          have hfz6_4 := blk_frozen BK227.out 4
          go_wp2_with (first | ((with_reducible refine gate_builtin (b := .append) (xs := #[.tmp 12, .tmp 14]) rfl ?_); at_builtin; refine Kd.R_append k53 (w0 := w) w.heap.size rfl (.tmp 12) (.tmp 14) 25 53 (.agg #[(.string ⟨#[]⟩), (.int .i64 0), (.int .i64 0), (.int .i64 0), (.string ⟨#[]⟩)]) 56 rfl Try.underlying25 info53 rfl (by decide) (by omega) u5 x5_1 (⟨a0_0, a0_1, a0_2, a0_3, a0_4⟩ : S53) [.string a0_0, .int .i64 a0_1, .int .i64 a0_2, .int .i64 a0_3, .string a0_4] (fun k_ => k_ ≠ gb227) (fun _ => False) rfl rfl ?aP (fun _ hk => hk.elim) ?aF ?aO ?aB ?aS ?aL ?_; (case aP => exact k53_mkM _ _ _ (⟨a0_0, a0_1, a0_2, a0_3, a0_4⟩ : S53)); (case aB => exact (by repeat (first | (with_reducible first | exact HB.out | apply below_alloc | apply pw_below_drewN | apply below_drew1 | refine below_set ?_ GE227.out) | exact HB.out))); (case aF => exact (fun k_ hk => Kd.freshB (g := gb227) (o := .cells #[.string a0_0, .int .i64 a0_1, .int .i64 a0_2, .int .i64 a0_3, .string a0_4] 53 (0, 0)) (by (with_reducible repeat (first | refine blk_drewN ?_ _ | refine blk_drew ?_ | refine blk_alloc ?_ _)); exact BK227.out) k_ hk)); (case aO => exact (by (with_reducible repeat (first | apply Kd.R_alloc | apply Kd.R_drewN | apply Kd.R_drew)); exact HO_5.out)); (case aS => exact (below_size (by repeat (first | (with_reducible first | exact HB.out | apply below_alloc | apply pw_below_drewN | apply below_drew1 | refine below_set ?_ GE227.out) | exact HB.out)))); (case aL => have := LMc5.out; omega); intro v229 w7 ho hb hg hat; rw [← Ny228.out] at ho; have n0_ := Aside0.mk (blk_grown (g := gb227) (o := .cells #[.string a0_0, .int .i64 a0_1, .int .i64 a0_2, .int .i64 a0_3, .string a0_4] 53 (0, 0)) (by (with_reducible repeat (first | refine blk_drewN ?_ _ | refine blk_drew ?_ | refine blk_alloc ?_ _)); exact BK227.out) hg (Kd.R_away HO_5.out (fun _ hk => hk))); have n1_ := Aside0.mk (hb); have n2_ := Aside0.mk (ho); clear BK227; clear HB; clear HO_5; have BK227 := n0_; have HB := n1_; have HO230 := n2_; clear n0_ n1_ n2_; clear ho hb hg hat))
          go_roundg k1
          case measure => have := HK1.out; omega
          case rel => exact ⟨(y228), (wrap64 (x6_1 + 1)), (by first | rfl | (simp; done) | (simp [*]; done)), H', ⟨by have := HK1.out; omega⟩, ⟨by (with_reducible repeat (first | apply Kd.R_alloc | apply Kd.R_drewN | apply Kd.R_drew)); exact HO230.out⟩, ⟨by (with_reducible repeat (first | refine blk_drewN ?_ _ | refine blk_drew ?_ | refine blk_alloc ?_ _)); exact BK227.out⟩, ⟨by repeat (first | (with_reducible first | exact HB.out | apply below_alloc | apply pw_below_drewN | apply below_drew1 | refine below_set ?_ GE227.out) | exact HB.out)⟩⟩
        · rw [if_neg c5] at H
          exact absurd H (by simp)
      · rw [if_neg c4] at H
        have c4b0 : decide (x6_1 < a1) = false := decide_eq_false c4
        clear c4
        obtain rfl := Option.some.inj H
        go_wp2
        go_ret
        exact ⟨_, by first | rfl | (simp [errW_none, errW_some] <;> rfl) | (simp [*, errW_none, errW_some] <;> rfl), by (with_reducible repeat (first | apply Kd.R_alloc | apply Kd.R_drewN | apply Kd.R_drew)); exact Kd.R_mono HO_5.out (fun _ hk => trivial), by repeat (first | (with_reducible first | exact HB.out | apply below_alloc | apply pw_below_drewN | apply below_drew1 | refine below_set ?_ GE227.out) | exact HB.out)⟩

/-! ### wimplelaw7_WireSizes: function 14 -/
def wimplelaw7_WireSizes.j0 : Nat → ByteArray → Int → Int → Bool → Option (Bool)
  | 0, _, _, _, _ => none
  | k + 1, x0, x1, x2, x24 => if x24 = true then (some true) else (if 0 ≤ (Go.bits .and .i64 x2 63) then (if (Go.bits .and .i64 x2 63 : Int).toNat ≤ 281474976710656 then ((some (([(⟨x0, 1, 1⟩ : S40)] : List (S40)) : List (S40))).bind fun y237 => ((wimplelaw7_many.f k x0 999 1 0 (strOfNums (List.replicate (Go.bits .and .i64 x2 63 : Int).toNat 0)) (Go.bits .and .i64 x1 63)).bind fun t240 => ((wire_Put.f 0 false 0 false false false false 0 0 y237 t240 ([] : List (S53)) ([] : List (S53))).bind fun bt244 => (if (wrap64 ((wrap64 ((wrap64 (12 + (x0.size : Int))) + 4)) + (wrap64 ((Go.bits .and .i64 x1 63) * (wrap64 (12 + (Go.bits .and .i64 x2 63))))))) > 4096 then ((wimplelaw0_Num.f bt244.2).bind fun t246 => (if t246 = 701 then (some (bt244.1.toList == ([] : List UInt8))) else (none))) else ((wire_Get.f k bt244.1).bind fun bt247 => ((wimplelaw0_Num.f bt244.2).bind fun t270 => (if t270 = 0 then (if (bt244.1.size : Int) = (wrap64 ((wrap64 ((wrap64 (12 + (x0.size : Int))) + 4)) + (wrap64 ((Go.bits .and .i64 x1 63) * (wrap64 (12 + (Go.bits .and .i64 x2 63))))))) then ((wimplelaw0_Num.f bt247.2.2.2.2.2.2.2.2.2.2.2.2.2).bind fun t271 => (if t271 = 0 then ((wimplelaw0_SameMsg.f k 0 false 0 false false false false 0 0 y237 t240 ([] : List (S53)) ([] : List (S53)) bt247.1 bt247.2.1 bt247.2.2.1 bt247.2.2.2.1 bt247.2.2.2.2.1 bt247.2.2.2.2.2.1 bt247.2.2.2.2.2.2.1 bt247.2.2.2.2.2.2.2.1 bt247.2.2.2.2.2.2.2.2.1 bt247.2.2.2.2.2.2.2.2.2.1 bt247.2.2.2.2.2.2.2.2.2.2.1 bt247.2.2.2.2.2.2.2.2.2.2.2.1 bt247.2.2.2.2.2.2.2.2.2.2.2.2.1).bind fun t272 => (some t272)) else (none))) else (none)) else (none)))))))) else (none)) else (none))
def wimplelaw7_WireSizes.f (k : Nat) (a0 : ByteArray) (a1 : Int) (a2 : Int) : Option (Bool) := (wimplelaw7_awake.f k).bind fun t231 => (if t231 = true then ((wimpleref1_May.f a0).bind fun t232 => (if t232 = true then (wimplelaw7_WireSizes.j0 k a0 a1 a2 (a0.toList == ([0] : List UInt8))) else (wimplelaw7_WireSizes.j0 k a0 a1 a2 true))) else (none))
theorem wimplelaw7_WireSizes.mono_l : ∀ k, (∀ y0 y1 y2 y3, LeO (wimplelaw7_WireSizes.j0 k y0 y1 y2 y3) (wimplelaw7_WireSizes.j0 (k + 1) y0 y1 y2 y3))
  | 0 => fun _ _ _ _ r h => by simp [wimplelaw7_WireSizes.j0] at h
  | k + 1 => by
    have ih0 := wimplelaw7_WireSizes.mono_l k
    · intro y0 y1 y2 y3
      unfold wimplelaw7_WireSizes.j0
      repeat' first
      | (with_reducible exact ih0 _ _ _ _)
      | (with_reducible exact wimplelaw0_SameMsg.mono _ _ _ _ _ _ _ _ _ _ _ _ _ _ _ _ _ _ _ _ _ _ _ _ _ _ _)
      | (with_reducible exact wimplelaw7_awake.mono _)
      | (with_reducible exact wimplelaw7_many.mono _ _ _ _ _ _ _)
      | (with_reducible exact wire_Get.mono _ _)
      | (with_reducible exact LeO.refl _)
      | (with_reducible exact LeO.none _)
      | (with_reducible refine LeO.ite ?_ ?_)
      | (with_reducible refine LeO.bind ?_ (fun _ => ?_))
      | exact ih0 _ _ _ _
      | exact wimplelaw0_SameMsg.mono _ _ _ _ _ _ _ _ _ _ _ _ _ _ _ _ _ _ _ _ _ _ _ _ _ _ _
      | exact wimplelaw7_awake.mono _
      | exact wimplelaw7_many.mono _ _ _ _ _ _ _
      | exact wire_Get.mono _ _
      | exact LeO.none _
      | refine LeO.ite ?_ ?_
      | refine LeO.bind ?_ (fun _ => ?_)
theorem wimplelaw7_WireSizes.mono : ∀ a0 a1 a2 k, LeO (wimplelaw7_WireSizes.f k a0 a1 a2) (wimplelaw7_WireSizes.f (k + 1) a0 a1 a2) := by
  intro a0 a1 a2 k
  have ih0 := wimplelaw7_WireSizes.mono_l k
  unfold wimplelaw7_WireSizes.f
  repeat' first
      | (with_reducible exact ih0 _ _ _ _)
      | (with_reducible exact wimplelaw0_SameMsg.mono _ _ _ _ _ _ _ _ _ _ _ _ _ _ _ _ _ _ _ _ _ _ _ _ _ _ _)
      | (with_reducible exact wimplelaw7_awake.mono _)
      | (with_reducible exact wimplelaw7_many.mono _ _ _ _ _ _ _)
      | (with_reducible exact wire_Get.mono _ _)
      | (with_reducible exact LeO.refl _)
      | (with_reducible exact LeO.none _)
      | (with_reducible refine LeO.ite ?_ ?_)
      | (with_reducible refine LeO.bind ?_ (fun _ => ?_))
      | exact ih0 _ _ _ _
      | exact wimplelaw0_SameMsg.mono _ _ _ _ _ _ _ _ _ _ _ _ _ _ _ _ _ _ _ _ _ _ _ _ _ _ _
      | exact wimplelaw7_awake.mono _
      | exact wimplelaw7_many.mono _ _ _ _ _ _ _
      | exact wire_Get.mono _ _
      | exact LeO.none _
      | refine LeO.ite ?_ ?_
      | refine LeO.bind ?_ (fun _ => ?_)
set_option maxHeartbeats 8000000 in
set_option maxRecDepth 100000 in
theorem wimplelaw7_WireSizes.calls (k : Nat) (a0 : ByteArray) (a1 : Int) (a2 : Int) (r : Bool) (w : World) (h : wimplelaw7_WireSizes.f k a0 a1 a2 = some r) :
    Calls Try.prog 14 #[.string a0, .int .i64 a1, .int .i64 a2] w fun e w' => e = .returned (.bool r) ∧ Below w.heap.size w w' := by
  have hu53 := Try.underlying53
  have hu40 := Try.underlying40
  have hu27 := Try.underlying27
  have HB := Aside0.mk (Below.refl w.heap.size w)
  have H : ((wimplelaw7_awake.f k).bind fun t231 => (if t231 = true then ((wimpleref1_May.f a0).bind fun t232 => (if t232 = true then (wimplelaw7_WireSizes.j0 k a0 a1 a2 (a0.toList == ([0] : List UInt8))) else (wimplelaw7_WireSizes.j0 k a0 a1 a2 true))) else (none))) = some r := h
  clear h
  replace H := Option.bind_eq_some_iff.mp H
  obtain ⟨t231, A40, H⟩ := H
  replace H : (if t231 = true then ((wimpleref1_May.f a0).bind fun t232 => (if t232 = true then (wimplelaw7_WireSizes.j0 k a0 a1 a2 (a0.toList == ([0] : List UInt8))) else (wimplelaw7_WireSizes.j0 k a0 a1 a2 true))) else (none)) = some r := H
  have A4 := Aside0.mk A40
  clear A40
  by_cases c5 : t231 = true
  · subst c5
    have H1 : ((wimpleref1_May.f a0).bind fun t232 => (if t232 = true then (wimplelaw7_WireSizes.j0 k a0 a1 a2 (a0.toList == ([0] : List UInt8))) else (wimplelaw7_WireSizes.j0 k a0 a1 a2 true))) = some r := by rw [if_pos rfl] at H; exact H
    clear H
    have H := H1
    clear H1
    have HC6 := Aside0.mk H
    clear H
    go_enter Try.func14, Try.ntmps14
    go_upto_region 3 with (first | ((with_reducible refine gate_dst (N := 16) rfl ?_); (try (refine gate_guard (by rfl) ?_; dsimp only)); (with_reducible refine gate_callee (f := 33) rfl ?_); refine goesL_ (some 16) rfl rfl Try.func33 (by kernel_rfl) rfl #[] rfl (by (try simp only [List.map_toArray, List.map_cons, List.map_nil]); first | done | rfl | (simp only [List.length_drop, List.length_take]; rfl)) ?_; (with_reducible refine (wimplelaw7_awake.calls k  true _ A4.out).mono ?_); rintro e w7 ⟨rfl, hb⟩; refine ⟨_, rfl, ?_⟩; have n0_ := Aside0.mk (below_step (by repeat (first | (with_reducible first | exact HB.out | apply below_alloc | apply pw_below_drewN | apply below_drew1) | exact HB.out)) hb); clear HB; have HB := n0_; clear n0_; (try clear hb); (try clear hb2); (try clear hk); (try clear hi)))
    (try simp only [Act.put, List.setIfInBounds_toArray, List.set_cons_zero, List.set_cons_succ])
    go_cut [24] (fun v24 wc => ∃ (kq : Nat) (x24_5 : Bool), v24 = .bool x24_5 ∧ Aside0 (wimplelaw7_WireSizes.j0 kq a0 a1 a2 x24_5 = some r) ∧ Aside0 (kq ≤ k) ∧ Aside0 (Below w.heap.size w wc))
    case first =>
      have H := HC6.out
      clear HC6
      replace H := Option.bind_eq_some_iff.mp H
      obtain ⟨t232, A80, H⟩ := H
      replace H : (if t232 = true then (wimplelaw7_WireSizes.j0 k a0 a1 a2 (a0.toList == ([0] : List UInt8))) else (wimplelaw7_WireSizes.j0 k a0 a1 a2 true)) = some r := H
      have A8 := Aside0.mk A80
      clear A80
      by_cases c9 : t232 = true
      · subst c9
        have H1 : (wimplelaw7_WireSizes.j0 k a0 a1 a2 (a0.toList == ([0] : List UInt8))) = some r := by rw [if_pos rfl] at H; exact H
        clear H
        have H := H1
        clear H1
        have H' := Aside0.mk H
        clear H
        go_wp2_with (first | ((with_reducible refine gate_dst (N := 19) rfl ?_); (try (refine gate_guard (by rfl) ?_; dsimp only)); (with_reducible refine gate_callee (f := 32) rfl ?_); refine goesL_ (some 19) rfl rfl Try.func32 (by kernel_rfl) rfl #[.string a0] rfl (by (try simp only [List.map_toArray, List.map_cons, List.map_nil]); first | done | rfl | (simp only [List.length_drop, List.length_take]; rfl)) ?_; (with_reducible refine (wimpleref1_May.calls a0 true _ A8.out).mono ?_); rintro e w10 ⟨rfl, hb⟩; refine ⟨_, rfl, ?_⟩; have n0_ := Aside0.mk (below_step (by repeat (first | (with_reducible first | exact HB.out | apply below_alloc | apply pw_below_drewN | apply below_drew1) | exact HB.out)) hb); clear HB; have HB := n0_; clear n0_; (try clear hb); (try clear hb2); (try clear hk); (try clear hi)))
        go_meet
        case rel => exact ⟨_, ((a0.toList == ([0] : List UInt8))), (by first | rfl | (simp; done) | (simp [*]; done)), H', ⟨by first | omega | exact Nat.le_refl _⟩, ⟨by repeat (first | (with_reducible first | exact HB.out | apply below_alloc | apply pw_below_drewN | apply below_drew1) | exact HB.out)⟩⟩
      · replace c9 := Bool.eq_false_iff.mpr c9
        subst c9
        have H1 : (wimplelaw7_WireSizes.j0 k a0 a1 a2 true) = some r := by rw [if_neg (show ¬ (false = true) by decide)] at H; exact H
        clear H
        have H := H1
        clear H1
        have H' := Aside0.mk H
        clear H
        go_wp2_with (first | ((with_reducible refine gate_dst (N := 19) rfl ?_); (try (refine gate_guard (by rfl) ?_; dsimp only)); (with_reducible refine gate_callee (f := 32) rfl ?_); refine goesL_ (some 19) rfl rfl Try.func32 (by kernel_rfl) rfl #[.string a0] rfl (by (try simp only [List.map_toArray, List.map_cons, List.map_nil]); first | done | rfl | (simp only [List.length_drop, List.length_take]; rfl)) ?_; (with_reducible refine (wimpleref1_May.calls a0 false _ A8.out).mono ?_); rintro e w11 ⟨rfl, hb⟩; refine ⟨_, rfl, ?_⟩; have n0_ := Aside0.mk (below_step (by repeat (first | (with_reducible first | exact HB.out | apply below_alloc | apply pw_below_drewN | apply below_drew1) | exact HB.out)) hb); clear HB; have HB := n0_; clear n0_; (try clear hb); (try clear hb2); (try clear hk); (try clear hi)))
        go_meet
        case rel => exact ⟨_, (true), (by first | rfl | (simp; done) | (simp [*]; done)), H', ⟨by first | omega | exact Nat.le_refl _⟩, ⟨by repeat (first | (with_reducible first | exact HB.out | apply below_alloc | apply pw_below_drewN | apply below_drew1) | exact HB.out)⟩⟩
    case rest =>
      clear HC6
      try clear c1
      try clear p2
      try clear c3
      try clear c5
      try clear c9
      obtain ⟨kq, x24_5, rfl, HA, HJ5, HB⟩ := hcut
      cases kq with
      | zero => exact absurd HA.out (by simp [wimplelaw7_WireSizes.j0])
      | succ kj5 =>
        have H := HA.out
        clear HA
        simp only [wimplelaw7_WireSizes.j0] at H
        by_cases c12 : x24_5 = true
        · subst c12
          have H1 : (some true) = some r := by rw [if_pos rfl] at H; exact H
          clear H
          have H := H1
          clear H1
          obtain rfl := Option.some.inj H
          go_wp2
          go_ret
          exact ⟨by first | rfl | (simp [errW_none, errW_some] <;> rfl) | (simp [*, errW_none, errW_some] <;> rfl), by repeat (first | (with_reducible first | exact HB.out | apply below_alloc | apply pw_below_drewN | apply below_drew1) | exact HB.out)⟩
        · replace c12 := Bool.eq_false_iff.mpr c12
          subst c12
          have H1 : (if 0 ≤ (Go.bits .and .i64 a2 63) then (if (Go.bits .and .i64 a2 63 : Int).toNat ≤ 281474976710656 then ((some (([(⟨a0, 1, 1⟩ : S40)] : List (S40)) : List (S40))).bind fun y237 => ((wimplelaw7_many.f kj5 a0 999 1 0 (strOfNums (List.replicate (Go.bits .and .i64 a2 63 : Int).toNat 0)) (Go.bits .and .i64 a1 63)).bind fun t240 => ((wire_Put.f 0 false 0 false false false false 0 0 y237 t240 ([] : List (S53)) ([] : List (S53))).bind fun bt244 => (if (wrap64 ((wrap64 ((wrap64 (12 + (a0.size : Int))) + 4)) + (wrap64 ((Go.bits .and .i64 a1 63) * (wrap64 (12 + (Go.bits .and .i64 a2 63))))))) > 4096 then ((wimplelaw0_Num.f bt244.2).bind fun t246 => (if t246 = 701 then (some (bt244.1.toList == ([] : List UInt8))) else (none))) else ((wire_Get.f kj5 bt244.1).bind fun bt247 => ((wimplelaw0_Num.f bt244.2).bind fun t270 => (if t270 = 0 then (if (bt244.1.size : Int) = (wrap64 ((wrap64 ((wrap64 (12 + (a0.size : Int))) + 4)) + (wrap64 ((Go.bits .and .i64 a1 63) * (wrap64 (12 + (Go.bits .and .i64 a2 63))))))) then ((wimplelaw0_Num.f bt247.2.2.2.2.2.2.2.2.2.2.2.2.2).bind fun t271 => (if t271 = 0 then ((wimplelaw0_SameMsg.f kj5 0 false 0 false false false false 0 0 y237 t240 ([] : List (S53)) ([] : List (S53)) bt247.1 bt247.2.1 bt247.2.2.1 bt247.2.2.2.1 bt247.2.2.2.2.1 bt247.2.2.2.2.2.1 bt247.2.2.2.2.2.2.1 bt247.2.2.2.2.2.2.2.1 bt247.2.2.2.2.2.2.2.2.1 bt247.2.2.2.2.2.2.2.2.2.1 bt247.2.2.2.2.2.2.2.2.2.2.1 bt247.2.2.2.2.2.2.2.2.2.2.2.1 bt247.2.2.2.2.2.2.2.2.2.2.2.2.1).bind fun t272 => (some t272)) else (none))) else (none)) else (none)))))))) else (none)) else (none)) = some r := by rw [if_neg (show ¬ (false = true) by decide)] at H; exact H
          clear H
          have H := H1
          clear H1
          by_cases c13 : 0 ≤ (Go.bits .and .i64 a2 63)
          · rw [if_pos c13] at H
            have c13b0 := eq_true c13
            have c13b1 : decide (0 ≤ (Go.bits .and .i64 a2 63)) = true := decide_eq_true c13
            clear c13
            by_cases c14 : (Go.bits .and .i64 a2 63 : Int).toNat ≤ 281474976710656
            · rw [if_pos c14] at H
              have c14b0 := eq_true c14
              have c14b1 : decide ((Go.bits .and .i64 a2 63 : Int).toNat ≤ 281474976710656) = true := decide_eq_true c14
              clear c14
              obtain ⟨y233, hy233⟩ : ∃ y_ : List Int, y_ = (List.replicate (Go.bits .and .i64 a2 63 : Int).toNat 0) := ⟨_, rfl⟩
              replace H : ((some (([(⟨a0, 1, 1⟩ : S40)] : List (S40)) : List (S40))).bind fun y237 => ((wimplelaw7_many.f kj5 a0 999 1 0 (strOfNums y233) (Go.bits .and .i64 a1 63)).bind fun t240 => ((wire_Put.f 0 false 0 false false false false 0 0 y237 t240 ([] : List (S53)) ([] : List (S53))).bind fun bt244 => (if (wrap64 ((wrap64 ((wrap64 (12 + (a0.size : Int))) + 4)) + (wrap64 ((Go.bits .and .i64 a1 63) * (wrap64 (12 + (Go.bits .and .i64 a2 63))))))) > 4096 then ((wimplelaw0_Num.f bt244.2).bind fun t246 => (if t246 = 701 then (some (bt244.1.toList == ([] : List UInt8))) else (none))) else ((wire_Get.f kj5 bt244.1).bind fun bt247 => ((wimplelaw0_Num.f bt244.2).bind fun t270 => (if t270 = 0 then (if (bt244.1.size : Int) = (wrap64 ((wrap64 ((wrap64 (12 + (a0.size : Int))) + 4)) + (wrap64 ((Go.bits .and .i64 a1 63) * (wrap64 (12 + (Go.bits .and .i64 a2 63))))))) then ((wimplelaw0_Num.f bt247.2.2.2.2.2.2.2.2.2.2.2.2.2).bind fun t271 => (if t271 = 0 then ((wimplelaw0_SameMsg.f kj5 0 false 0 false false false false 0 0 y237 t240 ([] : List (S53)) ([] : List (S53)) bt247.1 bt247.2.1 bt247.2.2.1 bt247.2.2.2.1 bt247.2.2.2.2.1 bt247.2.2.2.2.2.1 bt247.2.2.2.2.2.2.1 bt247.2.2.2.2.2.2.2.1 bt247.2.2.2.2.2.2.2.2.1 bt247.2.2.2.2.2.2.2.2.2.1 bt247.2.2.2.2.2.2.2.2.2.2.1 bt247.2.2.2.2.2.2.2.2.2.2.2.1 bt247.2.2.2.2.2.2.2.2.2.2.2.2.1).bind fun t272 => (some t272)) else (none))) else (none)) else (none)))))))) = some r := by first | (rw [hy233]; with_reducible exact H) | (have H2_ := (Option.bind_some _ _).symm.trans H; rw [hy233]; with_reducible exact H2_) | (have H2_ := (Option.bind_some _ _).symm.trans H; with_reducible exact H2_) | with_reducible exact H | (rw [hy233]; exact H) | exact H
              have Ny233 := Aside0.mk hy233
              clear hy233
              obtain ⟨y237, hy237⟩ : ∃ y_ : List (S40), y_ = (([(⟨a0, 1, 1⟩ : S40)] : List (S40))) := ⟨_, rfl⟩
              replace H : ((wimplelaw7_many.f kj5 a0 999 1 0 (strOfNums y233) (Go.bits .and .i64 a1 63)).bind fun t240 => ((wire_Put.f 0 false 0 false false false false 0 0 y237 t240 ([] : List (S53)) ([] : List (S53))).bind fun bt244 => (if (wrap64 ((wrap64 ((wrap64 (12 + (a0.size : Int))) + 4)) + (wrap64 ((Go.bits .and .i64 a1 63) * (wrap64 (12 + (Go.bits .and .i64 a2 63))))))) > 4096 then ((wimplelaw0_Num.f bt244.2).bind fun t246 => (if t246 = 701 then (some (bt244.1.toList == ([] : List UInt8))) else (none))) else ((wire_Get.f kj5 bt244.1).bind fun bt247 => ((wimplelaw0_Num.f bt244.2).bind fun t270 => (if t270 = 0 then (if (bt244.1.size : Int) = (wrap64 ((wrap64 ((wrap64 (12 + (a0.size : Int))) + 4)) + (wrap64 ((Go.bits .and .i64 a1 63) * (wrap64 (12 + (Go.bits .and .i64 a2 63))))))) then ((wimplelaw0_Num.f bt247.2.2.2.2.2.2.2.2.2.2.2.2.2).bind fun t271 => (if t271 = 0 then ((wimplelaw0_SameMsg.f kj5 0 false 0 false false false false 0 0 y237 t240 ([] : List (S53)) ([] : List (S53)) bt247.1 bt247.2.1 bt247.2.2.1 bt247.2.2.2.1 bt247.2.2.2.2.1 bt247.2.2.2.2.2.1 bt247.2.2.2.2.2.2.1 bt247.2.2.2.2.2.2.2.1 bt247.2.2.2.2.2.2.2.2.1 bt247.2.2.2.2.2.2.2.2.2.1 bt247.2.2.2.2.2.2.2.2.2.2.1 bt247.2.2.2.2.2.2.2.2.2.2.2.1 bt247.2.2.2.2.2.2.2.2.2.2.2.2.1).bind fun t272 => (some t272)) else (none))) else (none)) else (none))))))) = some r := by first | (rw [hy237]; with_reducible exact H) | (have H2_ := (Option.bind_some _ _).symm.trans H; rw [hy237]; with_reducible exact H2_) | (have H2_ := (Option.bind_some _ _).symm.trans H; with_reducible exact H2_) | with_reducible exact H | (rw [hy237]; exact H) | exact H
              have Ny237 := Aside0.mk hy237
              clear hy237
              replace H := Option.bind_eq_some_iff.mp H
              obtain ⟨t240, A150, H⟩ := H
              replace H : ((wire_Put.f 0 false 0 false false false false 0 0 y237 t240 ([] : List (S53)) ([] : List (S53))).bind fun bt244 => (if (wrap64 ((wrap64 ((wrap64 (12 + (a0.size : Int))) + 4)) + (wrap64 ((Go.bits .and .i64 a1 63) * (wrap64 (12 + (Go.bits .and .i64 a2 63))))))) > 4096 then ((wimplelaw0_Num.f bt244.2).bind fun t246 => (if t246 = 701 then (some (bt244.1.toList == ([] : List UInt8))) else (none))) else ((wire_Get.f kj5 bt244.1).bind fun bt247 => ((wimplelaw0_Num.f bt244.2).bind fun t270 => (if t270 = 0 then (if (bt244.1.size : Int) = (wrap64 ((wrap64 ((wrap64 (12 + (a0.size : Int))) + 4)) + (wrap64 ((Go.bits .and .i64 a1 63) * (wrap64 (12 + (Go.bits .and .i64 a2 63))))))) then ((wimplelaw0_Num.f bt247.2.2.2.2.2.2.2.2.2.2.2.2.2).bind fun t271 => (if t271 = 0 then ((wimplelaw0_SameMsg.f kj5 0 false 0 false false false false 0 0 y237 t240 ([] : List (S53)) ([] : List (S53)) bt247.1 bt247.2.1 bt247.2.2.1 bt247.2.2.2.1 bt247.2.2.2.2.1 bt247.2.2.2.2.2.1 bt247.2.2.2.2.2.2.1 bt247.2.2.2.2.2.2.2.1 bt247.2.2.2.2.2.2.2.2.1 bt247.2.2.2.2.2.2.2.2.2.1 bt247.2.2.2.2.2.2.2.2.2.2.1 bt247.2.2.2.2.2.2.2.2.2.2.2.1 bt247.2.2.2.2.2.2.2.2.2.2.2.2.1).bind fun t272 => (some t272)) else (none))) else (none)) else (none)))))) = some r := H
              have A15 := Aside0.mk A150
              clear A150
              replace H := Option.bind_eq_some_iff.mp H
              obtain ⟨⟨t244, t245⟩, A160, H⟩ := H
              replace H : (if (wrap64 ((wrap64 ((wrap64 (12 + (a0.size : Int))) + 4)) + (wrap64 ((Go.bits .and .i64 a1 63) * (wrap64 (12 + (Go.bits .and .i64 a2 63))))))) > 4096 then ((wimplelaw0_Num.f t245).bind fun t246 => (if t246 = 701 then (some (t244.toList == ([] : List UInt8))) else (none))) else ((wire_Get.f kj5 t244).bind fun bt247 => ((wimplelaw0_Num.f t245).bind fun t270 => (if t270 = 0 then (if (t244.size : Int) = (wrap64 ((wrap64 ((wrap64 (12 + (a0.size : Int))) + 4)) + (wrap64 ((Go.bits .and .i64 a1 63) * (wrap64 (12 + (Go.bits .and .i64 a2 63))))))) then ((wimplelaw0_Num.f bt247.2.2.2.2.2.2.2.2.2.2.2.2.2).bind fun t271 => (if t271 = 0 then ((wimplelaw0_SameMsg.f kj5 0 false 0 false false false false 0 0 y237 t240 ([] : List (S53)) ([] : List (S53)) bt247.1 bt247.2.1 bt247.2.2.1 bt247.2.2.2.1 bt247.2.2.2.2.1 bt247.2.2.2.2.2.1 bt247.2.2.2.2.2.2.1 bt247.2.2.2.2.2.2.2.1 bt247.2.2.2.2.2.2.2.2.1 bt247.2.2.2.2.2.2.2.2.2.1 bt247.2.2.2.2.2.2.2.2.2.2.1 bt247.2.2.2.2.2.2.2.2.2.2.2.1 bt247.2.2.2.2.2.2.2.2.2.2.2.2.1).bind fun t272 => (some t272)) else (none))) else (none)) else (none))))) = some r := H
              have A16 := Aside0.mk A160
              clear A160
              by_cases c17 : (wrap64 ((wrap64 ((wrap64 (12 + (a0.size : Int))) + 4)) + (wrap64 ((Go.bits .and .i64 a1 63) * (wrap64 (12 + (Go.bits .and .i64 a2 63))))))) > 4096
              · rw [if_pos c17] at H
                have c17b0 : decide (4096 < (wrap64 ((wrap64 ((wrap64 (12 + (a0.size : Int))) + 4)) + (wrap64 ((Go.bits .and .i64 a1 63) * (wrap64 (12 + (Go.bits .and .i64 a2 63)))))))) = true := decide_eq_true c17
                clear c17
                replace H := Option.bind_eq_some_iff.mp H
                obtain ⟨t246, A180, H⟩ := H
                replace H : (if t246 = 701 then (some (t244.toList == ([] : List UInt8))) else (none)) = some r := H
                have A18 := Aside0.mk A180
                clear A180
                by_cases c19 : t246 = 701
                · rw [if_pos c19] at H
                  have c19b0 : (t246 == 701) = true := beq_iff_eq.mpr c19
                  have c19b1 : (t246 != 701) = false := bne_eq_false_iff_eq.mpr c19
                  clear c19
                  obtain rfl := Option.some.inj H
                  go_wp2_with (first | ((with_reducible refine gate_dst (N := 31) rfl ?_); (try (refine gate_guard (by rfl) ?_; dsimp only)); refine Kd.R_make (Kd.int .u8) _ 5 rfl (N := 31) rfl 56 _ _ rfl (Go.bits .and .i64 a2 63) rfl rfl Try.underlying56 (.int .u8 0) 1 info5 rfl (by decide) (by omega) 0 (ok := fun _ => True) (okp := fun _ => True) rfl (fun _ hk => hk) trivial (of_decide_eq_true (by first | (with_reducible assumption) | assumption)) (Nat.le_trans (Nat.mul_le_mul_right _ (of_decide_eq_true (by first | (with_reducible assumption) | assumption) : (Go.bits .and .i64 a2 63).toNat ≤ 281474976710656)) (by omega)) (Below.refl _ _) (Nat.le_refl _) ?_; intro v234 w20 ho21 hb hg_ hnew_; clear hg_ hnew_; (first | rw [← Ny233.out] at ho21 | (simp only [Int.reduceToNat] at ho21; rw [← Ny233.out] at ho21)); have n0_ := Aside0.mk (Kd.R_lower ho21 (below_size (by repeat (first | (with_reducible first | exact HB.out | apply below_alloc | apply pw_below_drewN | apply below_drew1) | exact HB.out)))); have n1_ := Aside0.mk (below_step (by repeat (first | (with_reducible first | exact HB.out | apply below_alloc | apply pw_below_drewN | apply below_drew1) | exact HB.out)) hb); clear HB; have HO235 := n0_; have HB := n1_; clear n0_ n1_; clear hb ho21; have hcv22 := own_string (P := Try.prog) Try.underlying56 Try.underlying5 Try.underlying9 (Kd.own_of_R HO235.out)) | ((with_reducible refine gate_dst (N := 9) rfl ?_); (try (refine gate_guard (by rfl) ?_; dsimp only)); refine box_event ?hg (N := 9) ?hd (cs := #[.string (⟨#[]⟩ : ByteArray), .int .i64 0, .int .i64 0, .int .i64 0, .string (⟨#[]⟩ : ByteArray)]) (t := 53) ?hr ?_; (case hd => rfl); (case hg => rfl); (case hr => first | (go_simp; done) | (go_simp; rfl)); intro gb236 hg w23 hbox hb; have n0_ := Aside0.mk (Kd.R_below (by (with_reducible repeat (first | apply Kd.R_alloc | apply Kd.R_drewN | apply Kd.R_drew)); exact HO235.out) hb); have n1_ := Aside0.mk (below_step (by repeat (first | (with_reducible first | exact HB.out | apply below_alloc | apply pw_below_drewN | apply below_drew1) | exact HB.out)) hb); have n2_ := Aside0.mk (hbox); have n3_ := Aside0.mk ((by rw [hg]; exact (below_size (by repeat (first | (with_reducible first | exact HB.out | apply below_alloc | apply pw_below_drewN | apply below_drew1) | exact HB.out))) : w.heap.size ≤ gb236)); have n4_ := Aside0.mk ((by rw [hg]; exact (below_size (by repeat (first | (with_reducible first | exact HB.out | apply below_alloc | apply pw_below_drewN | apply below_drew1) | exact HB.out))) : w.heap.size ≤ gb236)); clear HO235; clear HB; have HO235 := n0_; have HB := n1_; have BK236 := n2_; have GW236 := n3_; have GE236 := n4_; clear n0_ n1_ n2_ n3_ n4_; clear hb hbox hg; (try clear hcz32_0 hcz32_1 hcz32_2 hcz32_3 hcz32_4 hcz32_5 hcz32_6 hcz32_7 hcz32_8 hcz32_9 hcz32_10 hcz32_11 hcz32_12 hfz32_0 hfz32_1 hfz32_2 hfz32_3 hfz32_4 hfz32_5 hfz32_6 hfz32_7 hfz32_8 hfz32_9 hfz32_10 hfz32_11 hfz32_12); (try clear hcz41_0 hcz41_1 hcz41_2 hcz41_3 hcz41_4 hcz41_5 hcz41_6 hcz41_7 hcz41_8 hcz41_9 hcz41_10 hcz41_11 hcz41_12 hfz41_0 hfz41_1 hfz41_2 hfz41_3 hfz41_4 hfz41_5 hfz41_6 hfz41_7 hfz41_8 hfz41_9 hfz41_10 hfz41_11 hfz41_12); (try clear hcz58_0 hcz58_1 hcz58_2 hcz58_3 hcz58_4 hcz58_5 hcz58_6 hcz58_7 hcz58_8 hcz58_9 hcz58_10 hcz58_11 hcz58_12 hfz58_0 hfz58_1 hfz58_2 hfz58_3 hfz58_4 hfz58_5 hfz58_6 hfz58_7 hfz58_8 hfz58_9 hfz58_10 hfz58_11 hfz58_12); (try clear hcz63_0 hcz63_1 hcz63_2 hcz63_3 hcz63_4 hcz63_5 hcz63_6 hcz63_7 hcz63_8 hcz63_9 hcz63_10 hcz63_11 hcz63_12 hfz63_0 hfz63_1 hfz63_2 hfz63_3 hfz63_4 hfz63_5 hfz63_6 hfz63_7 hfz63_8 hfz63_9 hfz63_10 hfz63_11 hfz63_12); (try clear hcz64_0 hcz64_1 hcz64_2 hcz64_3 hcz64_4 hcz64_5 hcz64_6 hcz64_7 hcz64_8 hcz64_9 hcz64_10 hcz64_11 hcz64_12 hfz64_0 hfz64_1 hfz64_2 hfz64_3 hfz64_4 hfz64_5 hfz64_6 hfz64_7 hfz64_8 hfz64_9 hfz64_10 hfz64_11 hfz64_12); (try clear hcz6_0 hcz6_1 hcz6_2 hcz6_3 hcz6_4 hfz6_0 hfz6_1 hfz6_2 hfz6_3 hfz6_4); have hcz24_0 : w23.cell? ⟨gb236, 0, none⟩ = some (.string (⟨#[]⟩ : ByteArray)) := (blk_cell BK236.out 0).trans rfl; have hcz24_1 : w23.cell? ⟨gb236, 1, none⟩ = some (.int .i64 0) := (blk_cell BK236.out 1).trans rfl; have hcz24_2 : w23.cell? ⟨gb236, 2, none⟩ = some (.int .i64 0) := (blk_cell BK236.out 2).trans rfl; have hcz24_3 : w23.cell? ⟨gb236, 3, none⟩ = some (.int .i64 0) := (blk_cell BK236.out 3).trans rfl; have hcz24_4 : w23.cell? ⟨gb236, 4, none⟩ = some (.string (⟨#[]⟩ : ByteArray)) := (blk_cell BK236.out 4).trans rfl; have hfz24_0 := blk_frozen BK236.out 0; have hfz24_1 := blk_frozen BK236.out 1; have hfz24_2 := blk_frozen BK236.out 2; have hfz24_3 := blk_frozen BK236.out 3; have hfz24_4 := blk_frozen BK236.out 4) | ((with_reducible refine gate_dst (N := 36) rfl ?_); (try (refine gate_guard (by rfl) ?_; dsimp only)); refine Kd.R_lit k40 _ 40 ?hg (N := 36) ?hd (xs := ([(⟨a0, 1, 1⟩ : S40)] : List (S40))) (inner := [.string a0, .int .i64 1, .int .i64 1]) (ok := fun _ => True) (okp := fun _ => True) ?hr ?hp (fun _ hk => hk) trivial (Below.refl _ _) (Nat.le_refl _) (by simp) ?_; (case hd => rfl); (case hg => rfl); (case hr => first | (go_simp; done) | (go_simp; rfl)); (case hp => exact (Reps.c3 (show Kd.M k40 _ _ _ (⟨a0, 1, 1⟩ : S40) [.string a0, .int .i64 1, .int .i64 1] from (k40_mkM _ _ _ (⟨a0, 1, 1⟩ : S40) )) (Reps.none _ _))); intro v238 w25 ho26 hb hg_ hnew_; clear hg_ hnew_; (first | rw [← Ny237.out] at ho26 | (simp only [Int.reduceToNat] at ho26; rw [← Ny237.out] at ho26)); have n0_ := Aside0.mk (Kd.R_below (by (with_reducible repeat (first | apply Kd.R_alloc | apply Kd.R_drewN | apply Kd.R_drew)); exact (Kd.R_mono (Kd.R_far (p := ⟨gb236, 4, none⟩) (Kd.R_far (p := ⟨gb236, 3, none⟩) (Kd.R_far (p := ⟨gb236, 2, none⟩) (Kd.R_far (p := ⟨gb236, 1, none⟩) (Kd.R_far (p := ⟨gb236, 0, none⟩) (Kd.R_types HO235.out BK236.out (by decide)) (fun _ hk => hk.2) (.string a0)) (fun _ hk => hk.2) (.int .i64 999)) (fun _ hk => hk.2) (.int .i64 1)) (fun _ hk => hk.2) (.int .i64 0)) (fun _ hk => hk.2) (.string (strOfNums y233))) (fun _ h_ => h_.1))) hb); have n1_ := Aside0.mk (Kd.R_lower ho26 (below_size (by repeat (first | (with_reducible first | exact HB.out | apply below_alloc | apply pw_below_drewN | apply below_drew1 | refine below_set ?_ GE236.out) | exact HB.out)))); have n2_ := Aside0.mk (blk_below (g := gb236) (o := .cells #[.string a0, .int .i64 999, .int .i64 1, .int .i64 0, .string (strOfNums y233)] 53 (0, 0)) (by (with_reducible repeat (first | refine blk_drewN ?_ _ | refine blk_drew ?_ | refine blk_alloc ?_ _)); refine blk_put (cs := #[.string a0, .int .i64 999, .int .i64 1, .int .i64 0, .string (⟨#[]⟩ : ByteArray)]) ?_ 4 _ rfl; (with_reducible repeat (first | refine blk_drewN ?_ _ | refine blk_drew ?_ | refine blk_alloc ?_ _)); refine blk_put (cs := #[.string a0, .int .i64 999, .int .i64 1, .int .i64 0, .string (⟨#[]⟩ : ByteArray)]) ?_ 3 _ rfl; (with_reducible repeat (first | refine blk_drewN ?_ _ | refine blk_drew ?_ | refine blk_alloc ?_ _)); refine blk_put (cs := #[.string a0, .int .i64 999, .int .i64 0, .int .i64 0, .string (⟨#[]⟩ : ByteArray)]) ?_ 2 _ rfl; (with_reducible repeat (first | refine blk_drewN ?_ _ | refine blk_drew ?_ | refine blk_alloc ?_ _)); refine blk_put (cs := #[.string a0, .int .i64 0, .int .i64 0, .int .i64 0, .string (⟨#[]⟩ : ByteArray)]) ?_ 1 _ rfl; (with_reducible repeat (first | refine blk_drewN ?_ _ | refine blk_drew ?_ | refine blk_alloc ?_ _)); refine blk_put (cs := #[.string (⟨#[]⟩ : ByteArray), .int .i64 0, .int .i64 0, .int .i64 0, .string (⟨#[]⟩ : ByteArray)]) ?_ 0 _ rfl; (with_reducible repeat (first | refine blk_drewN ?_ _ | refine blk_drew ?_ | refine blk_alloc ?_ _)); exact BK236.out) hb); have n3_ := Aside0.mk (below_step (by repeat (first | (with_reducible first | exact HB.out | apply below_alloc | apply pw_below_drewN | apply below_drew1 | refine below_set ?_ GE236.out) | exact HB.out)) hb); clear HO235; clear BK236; clear HB; have HO235 := n0_; have HO239 := n1_; have BK236 := n2_; have HB := n3_; clear n0_ n1_ n2_ n3_; clear hb ho26; (try clear hcz41_0 hcz41_1 hcz41_2 hcz41_3 hcz41_4 hcz41_5 hcz41_6 hcz41_7 hcz41_8 hcz41_9 hcz41_10 hcz41_11 hcz41_12 hfz41_0 hfz41_1 hfz41_2 hfz41_3 hfz41_4 hfz41_5 hfz41_6 hfz41_7 hfz41_8 hfz41_9 hfz41_10 hfz41_11 hfz41_12); (try clear hcz58_0 hcz58_1 hcz58_2 hcz58_3 hcz58_4 hcz58_5 hcz58_6 hcz58_7 hcz58_8 hcz58_9 hcz58_10 hcz58_11 hcz58_12 hfz58_0 hfz58_1 hfz58_2 hfz58_3 hfz58_4 hfz58_5 hfz58_6 hfz58_7 hfz58_8 hfz58_9 hfz58_10 hfz58_11 hfz58_12); (try clear hcz63_0 hcz63_1 hcz63_2 hcz63_3 hcz63_4 hcz63_5 hcz63_6 hcz63_7 hcz63_8 hcz63_9 hcz63_10 hcz63_11 hcz63_12 hfz63_0 hfz63_1 hfz63_2 hfz63_3 hfz63_4 hfz63_5 hfz63_6 hfz63_7 hfz63_8 hfz63_9 hfz63_10 hfz63_11 hfz63_12); (try clear hcz64_0 hcz64_1 hcz64_2 hcz64_3 hcz64_4 hcz64_5 hcz64_6 hcz64_7 hcz64_8 hcz64_9 hcz64_10 hcz64_11 hcz64_12 hfz64_0 hfz64_1 hfz64_2 hfz64_3 hfz64_4 hfz64_5 hfz64_6 hfz64_7 hfz64_8 hfz64_9 hfz64_10 hfz64_11 hfz64_12); (try clear hcz6_0 hcz6_1 hcz6_2 hcz6_3 hcz6_4 hfz6_0 hfz6_1 hfz6_2 hfz6_3 hfz6_4); (try clear hcz24_0 hcz24_1 hcz24_2 hcz24_3 hcz24_4 hfz24_0 hfz24_1 hfz24_2 hfz24_3 hfz24_4); have hcz27_0 : w25.cell? ⟨gb236, 0, none⟩ = some (.string a0) := (blk_cell BK236.out 0).trans rfl; have hcz27_1 : w25.cell? ⟨gb236, 1, none⟩ = some (.int .i64 999) := (blk_cell BK236.out 1).trans rfl; have hcz27_2 : w25.cell? ⟨gb236, 2, none⟩ = some (.int .i64 1) := (blk_cell BK236.out 2).trans rfl; have hcz27_3 : w25.cell? ⟨gb236, 3, none⟩ = some (.int .i64 0) := (blk_cell BK236.out 3).trans rfl; have hcz27_4 : w25.cell? ⟨gb236, 4, none⟩ = some (.string (strOfNums y233)) := (blk_cell BK236.out 4).trans rfl; have hfz27_0 := blk_frozen BK236.out 0; have hfz27_1 := blk_frozen BK236.out 1; have hfz27_2 := blk_frozen BK236.out 2; have hfz27_3 := blk_frozen BK236.out 3; have hfz27_4 := blk_frozen BK236.out 4) | ((with_reducible refine gate_dst (N := 39) rfl ?_); (try (refine gate_guard (by rfl) ?_; dsimp only)); (with_reducible refine gate_callee (f := 36) rfl ?_); refine goesL_ (some 39) rfl rfl Try.func36 (by kernel_rfl) rfl #[.agg #[.string a0, .int .i64 999, .int .i64 1, .int .i64 0, .string (strOfNums y233)], .int .i64 (Go.bits .and .i64 a1 63)] rfl (by (try simp only [List.map_toArray, List.map_cons, List.map_nil]); first | done | rfl | (simp only [List.length_drop, List.length_take]; rfl)) ?_; (with_reducible refine (wimplelaw7_many.calls kj5 a0 999 1 0 (strOfNums y233) (Go.bits .and .i64 a1 63) t240 _ A15.out).mono ?_); rintro e w28 ⟨v241, rfl, ho0, hb⟩; refine ⟨_, rfl, ?_⟩; have n0_ := Aside0.mk (Kd.R_below (by (with_reducible repeat (first | apply Kd.R_alloc | apply Kd.R_drewN | apply Kd.R_drew)); exact HO235.out) hb); have n1_ := Aside0.mk (Kd.R_below (by (with_reducible repeat (first | apply Kd.R_alloc | apply Kd.R_drewN | apply Kd.R_drew)); exact HO239.out) hb); have n2_ := Aside0.mk (Kd.R_lower (Kd.R_newB ho0 (g := gb236) (o := .cells #[.string a0, .int .i64 999, .int .i64 1, .int .i64 0, .string (strOfNums y233)] 53 (0, 0)) (by (with_reducible repeat (first | refine blk_drewN ?_ _ | refine blk_drew ?_ | refine blk_alloc ?_ _)); exact BK236.out)) (below_size (by repeat (first | (with_reducible first | exact HB.out | apply below_alloc | apply pw_below_drewN | apply below_drew1 | refine below_set ?_ GE236.out) | exact HB.out)))); have n3_ := Aside0.mk (blk_below (g := gb236) (o := .cells #[.string a0, .int .i64 999, .int .i64 1, .int .i64 0, .string (strOfNums y233)] 53 (0, 0)) (by (with_reducible repeat (first | refine blk_drewN ?_ _ | refine blk_drew ?_ | refine blk_alloc ?_ _)); exact BK236.out) hb); have n4_ := Aside0.mk (below_step (by repeat (first | (with_reducible first | exact HB.out | apply below_alloc | apply pw_below_drewN | apply below_drew1 | refine below_set ?_ GE236.out) | exact HB.out)) hb); clear HO235; clear HO239; clear BK236; clear HB; have HO235 := n0_; have HO239 := n1_; have HO242 := n2_; have BK236 := n3_; have HB := n4_; clear n0_ n1_ n2_ n3_ n4_; (try clear hb); (try clear hb2); (try clear hk); (try clear hi); (try clear ho0); obtain ⟨Ao29, co29, eo29⟩ := Kd.R_slice HO242.out; subst eo29; obtain ⟨Ao30, co30, eo30⟩ := Kd.R_slice HO239.out; subst eo30) | ((with_reducible refine gate_dst (N := 10) rfl ?_); (try (refine gate_guard (by rfl) ?_; dsimp only)); refine box_event ?hg (N := 10) ?hd (cs := #[.int .i64 0, .bool false, .int .i64 0, .bool false, .bool false, .bool false, .bool false, .int .i64 0, .int .i64 0, .slice none 0 0, .slice none 0 0, .slice none 0 0, .slice none 0 0]) (t := 27) ?hr ?_; (case hd => rfl); (case hg => rfl); (case hr => first | (go_simp; done) | (go_simp; rfl)); intro gb243 hg w31 hbox hb; have n0_ := Aside0.mk (Kd.R_below (by (with_reducible repeat (first | apply Kd.R_alloc | apply Kd.R_drewN | apply Kd.R_drew)); exact HO235.out) hb); have n1_ := Aside0.mk (Kd.R_below (by (with_reducible repeat (first | apply Kd.R_alloc | apply Kd.R_drewN | apply Kd.R_drew)); exact HO239.out) hb); have n2_ := Aside0.mk (Kd.R_below (by (with_reducible repeat (first | apply Kd.R_alloc | apply Kd.R_drewN | apply Kd.R_drew)); exact HO242.out) hb); have n3_ := Aside0.mk (blk_below (g := gb236) (o := .cells #[.string a0, .int .i64 999, .int .i64 1, .int .i64 0, .string (strOfNums y233)] 53 (0, 0)) (by (with_reducible repeat (first | refine blk_drewN ?_ _ | refine blk_drew ?_ | refine blk_alloc ?_ _)); exact BK236.out) hb); have n4_ := Aside0.mk (below_step (by repeat (first | (with_reducible first | exact HB.out | apply below_alloc | apply pw_below_drewN | apply below_drew1 | refine below_set ?_ GE236.out) | exact HB.out)) hb); have n5_ := Aside0.mk (hbox); have n6_ := Aside0.mk ((by rw [hg]; exact (below_size (by repeat (first | (with_reducible first | exact HB.out | apply below_alloc | apply pw_below_drewN | apply below_drew1 | refine below_set ?_ GE236.out) | exact HB.out))) : w.heap.size ≤ gb243)); have n7_ := Aside0.mk ((by rw [hg]; exact (below_size (by repeat (first | (with_reducible first | exact HB.out | apply below_alloc | apply pw_below_drewN | apply below_drew1 | refine below_set ?_ GE236.out) | exact HB.out))) : w.heap.size ≤ gb243)); have n8_ := Aside0.mk ((by rw [hg]; exact Nat.ne_of_lt (blk_lt (g := gb236) (o := .cells #[.string a0, .int .i64 999, .int .i64 1, .int .i64 0, .string (strOfNums y233)] 53 (0, 0)) (by (with_reducible repeat (first | refine blk_drewN ?_ _ | refine blk_drew ?_ | refine blk_alloc ?_ _)); exact BK236.out)) : gb236 ≠ gb243)); have n9_ := Aside0.mk ((by rw [hg]; exact Nat.ne_of_gt (blk_lt (g := gb236) (o := .cells #[.string a0, .int .i64 999, .int .i64 1, .int .i64 0, .string (strOfNums y233)] 53 (0, 0)) (by (with_reducible repeat (first | refine blk_drewN ?_ _ | refine blk_drew ?_ | refine blk_alloc ?_ _)); exact BK236.out)) : gb243 ≠ gb236)); clear HO235; clear HO239; clear HO242; clear BK236; clear HB; have HO235 := n0_; have HO239 := n1_; have HO242 := n2_; have BK236 := n3_; have HB := n4_; have BK243 := n5_; have GW243 := n6_; have GE243 := n7_; have NB236_243 := n8_; have NB243_236 := n9_; clear n0_ n1_ n2_ n3_ n4_ n5_ n6_ n7_ n8_ n9_; clear hb hbox hg; have hnb32 := NB243_236.out; have hnc32 := NB236_243.out; (try clear hcz58_0 hcz58_1 hcz58_2 hcz58_3 hcz58_4 hcz58_5 hcz58_6 hcz58_7 hcz58_8 hcz58_9 hcz58_10 hcz58_11 hcz58_12 hfz58_0 hfz58_1 hfz58_2 hfz58_3 hfz58_4 hfz58_5 hfz58_6 hfz58_7 hfz58_8 hfz58_9 hfz58_10 hfz58_11 hfz58_12); (try clear hcz63_0 hcz63_1 hcz63_2 hcz63_3 hcz63_4 hcz63_5 hcz63_6 hcz63_7 hcz63_8 hcz63_9 hcz63_10 hcz63_11 hcz63_12 hfz63_0 hfz63_1 hfz63_2 hfz63_3 hfz63_4 hfz63_5 hfz63_6 hfz63_7 hfz63_8 hfz63_9 hfz63_10 hfz63_11 hfz63_12); (try clear hcz64_0 hcz64_1 hcz64_2 hcz64_3 hcz64_4 hcz64_5 hcz64_6 hcz64_7 hcz64_8 hcz64_9 hcz64_10 hcz64_11 hcz64_12 hfz64_0 hfz64_1 hfz64_2 hfz64_3 hfz64_4 hfz64_5 hfz64_6 hfz64_7 hfz64_8 hfz64_9 hfz64_10 hfz64_11 hfz64_12); (try clear hcz6_0 hcz6_1 hcz6_2 hcz6_3 hcz6_4 hfz6_0 hfz6_1 hfz6_2 hfz6_3 hfz6_4); (try clear hcz24_0 hcz24_1 hcz24_2 hcz24_3 hcz24_4 hfz24_0 hfz24_1 hfz24_2 hfz24_3 hfz24_4); (try clear hcz27_0 hcz27_1 hcz27_2 hcz27_3 hcz27_4 hfz27_0 hfz27_1 hfz27_2 hfz27_3 hfz27_4); have hcz33_0 : w31.cell? ⟨gb243, 0, none⟩ = some (.int .i64 0) := (blk_cell BK243.out 0).trans rfl; have hcz33_1 : w31.cell? ⟨gb243, 1, none⟩ = some (.bool false) := (blk_cell BK243.out 1).trans rfl; have hcz33_2 : w31.cell? ⟨gb243, 2, none⟩ = some (.int .i64 0) := (blk_cell BK243.out 2).trans rfl; have hcz33_3 : w31.cell? ⟨gb243, 3, none⟩ = some (.bool false) := (blk_cell BK243.out 3).trans rfl; have hcz33_4 : w31.cell? ⟨gb243, 4, none⟩ = some (.bool false) := (blk_cell BK243.out 4).trans rfl; have hcz33_5 : w31.cell? ⟨gb243, 5, none⟩ = some (.bool false) := (blk_cell BK243.out 5).trans rfl; have hcz33_6 : w31.cell? ⟨gb243, 6, none⟩ = some (.bool false) := (blk_cell BK243.out 6).trans rfl; have hcz33_7 : w31.cell? ⟨gb243, 7, none⟩ = some (.int .i64 0) := (blk_cell BK243.out 7).trans rfl; have hcz33_8 : w31.cell? ⟨gb243, 8, none⟩ = some (.int .i64 0) := (blk_cell BK243.out 8).trans rfl; have hcz33_9 : w31.cell? ⟨gb243, 9, none⟩ = some (.slice none 0 0) := (blk_cell BK243.out 9).trans rfl; have hcz33_10 : w31.cell? ⟨gb243, 10, none⟩ = some (.slice none 0 0) := (blk_cell BK243.out 10).trans rfl; have hcz33_11 : w31.cell? ⟨gb243, 11, none⟩ = some (.slice none 0 0) := (blk_cell BK243.out 11).trans rfl; have hcz33_12 : w31.cell? ⟨gb243, 12, none⟩ = some (.slice none 0 0) := (blk_cell BK243.out 12).trans rfl; have hfz33_0 := blk_frozen BK243.out 0; have hfz33_1 := blk_frozen BK243.out 1; have hfz33_2 := blk_frozen BK243.out 2; have hfz33_3 := blk_frozen BK243.out 3; have hfz33_4 := blk_frozen BK243.out 4; have hfz33_5 := blk_frozen BK243.out 5; have hfz33_6 := blk_frozen BK243.out 6; have hfz33_7 := blk_frozen BK243.out 7; have hfz33_8 := blk_frozen BK243.out 8; have hfz33_9 := blk_frozen BK243.out 9; have hfz33_10 := blk_frozen BK243.out 10; have hfz33_11 := blk_frozen BK243.out 11; have hfz33_12 := blk_frozen BK243.out 12) | ((with_reducible refine gate_dst (N := 43) rfl ?_); (try (refine gate_guard (by rfl) ?_; dsimp only)); (with_reducible refine gate_callee (f := 34) rfl ?_); refine goesL_ (some 43) rfl rfl Try.func34 (by kernel_rfl) rfl #[.agg #[.int .i64 0, .bool false, .int .i64 0, .bool false, .bool false, .bool false, .bool false, .int .i64 0, .int .i64 0, .slice Ao30 y237.length co30, .slice Ao29 t240.length co29, .slice none 0 0, .slice none 0 0]] rfl (by (try simp only [List.map_toArray, List.map_cons, List.map_nil]); first | done | rfl | (simp only [List.length_drop, List.length_take]; rfl)) ?_; (refine (wire_Put.calls 0 false 0 false false false false 0 0 _ _ y237 _ _ t240 _ _ ([] : List (S53)) _ _ ([] : List (S53)) t244 t245 _ ?side1 ?side2 ?side3 ?side4 ?side5 ?side6 ?side7 ?side8 A16.out).mono ?_); (case side1 => refine (Kd.R_reads' (e := 40) (base := w.heap.size) (ok := fun k_ => True) (n := y237.length) (c := co30) ?_).2.2; exact (by (with_reducible repeat (first | apply Kd.R_alloc | apply Kd.R_drewN | apply Kd.R_drew)); exact (Kd.R_mono (Kd.R_far (p := ⟨gb243, 12, none⟩) (Kd.R_far (p := ⟨gb243, 11, none⟩) (Kd.R_far (p := ⟨gb243, 10, none⟩) (Kd.R_far (p := ⟨gb243, 9, none⟩) (Kd.R_far (p := ⟨gb243, 8, none⟩) (Kd.R_far (p := ⟨gb243, 7, none⟩) (Kd.R_far (p := ⟨gb243, 6, none⟩) (Kd.R_far (p := ⟨gb243, 5, none⟩) (Kd.R_far (p := ⟨gb243, 4, none⟩) (Kd.R_far (p := ⟨gb243, 3, none⟩) (Kd.R_far (p := ⟨gb243, 2, none⟩) (Kd.R_far (p := ⟨gb243, 1, none⟩) (Kd.R_far (p := ⟨gb243, 0, none⟩) (Kd.R_types HO239.out BK243.out (by decide)) (fun _ hk => hk.2) (.int .i64 0)) (fun _ hk => hk.2) (.bool false)) (fun _ hk => hk.2) (.int .i64 0)) (fun _ hk => hk.2) (.bool false)) (fun _ hk => hk.2) (.bool false)) (fun _ hk => hk.2) (.bool false)) (fun _ hk => hk.2) (.bool false)) (fun _ hk => hk.2) (.int .i64 0)) (fun _ hk => hk.2) (.int .i64 0)) (fun _ hk => hk.2) (.slice Ao30 y237.length co30)) (fun _ hk => hk.2) (.slice Ao29 t240.length co29)) (fun _ hk => hk.2) (.slice none 0 0)) (fun _ hk => hk.2) (.slice none 0 0)) (fun _ h_ => h_.1)))); (case side2 => exact (Kd.R_reads' HO239.out).2.1); (case side3 => refine (Kd.R_reads' (e := 53) (base := w.heap.size) (ok := fun k_ => (True ∧ k_ ≠ gb236)) (n := t240.length) (c := co29) ?_).2.2; exact (by (with_reducible repeat (first | apply Kd.R_alloc | apply Kd.R_drewN | apply Kd.R_drew)); exact (Kd.R_mono (Kd.R_far (p := ⟨gb243, 12, none⟩) (Kd.R_far (p := ⟨gb243, 11, none⟩) (Kd.R_far (p := ⟨gb243, 10, none⟩) (Kd.R_far (p := ⟨gb243, 9, none⟩) (Kd.R_far (p := ⟨gb243, 8, none⟩) (Kd.R_far (p := ⟨gb243, 7, none⟩) (Kd.R_far (p := ⟨gb243, 6, none⟩) (Kd.R_far (p := ⟨gb243, 5, none⟩) (Kd.R_far (p := ⟨gb243, 4, none⟩) (Kd.R_far (p := ⟨gb243, 3, none⟩) (Kd.R_far (p := ⟨gb243, 2, none⟩) (Kd.R_far (p := ⟨gb243, 1, none⟩) (Kd.R_far (p := ⟨gb243, 0, none⟩) (Kd.R_types HO242.out BK243.out (by decide)) (fun _ hk => hk.2) (.int .i64 0)) (fun _ hk => hk.2) (.bool false)) (fun _ hk => hk.2) (.int .i64 0)) (fun _ hk => hk.2) (.bool false)) (fun _ hk => hk.2) (.bool false)) (fun _ hk => hk.2) (.bool false)) (fun _ hk => hk.2) (.bool false)) (fun _ hk => hk.2) (.int .i64 0)) (fun _ hk => hk.2) (.int .i64 0)) (fun _ hk => hk.2) (.slice Ao30 y237.length co30)) (fun _ hk => hk.2) (.slice Ao29 t240.length co29)) (fun _ hk => hk.2) (.slice none 0 0)) (fun _ hk => hk.2) (.slice none 0 0)) (fun _ h_ => h_.1)))); (case side4 => exact (Kd.R_reads' HO242.out).2.1); (case side5 => exact Kd.C_nil _ _); (case side6 => exact Nat.le_refl _); (case side7 => exact Kd.C_nil _ _); (case side8 => exact Nat.le_refl _); rintro e w34 ⟨rfl, hb⟩; refine ⟨_, rfl, ?_⟩; have n0_ := Aside0.mk (Kd.R_below (by (with_reducible repeat (first | apply Kd.R_alloc | apply Kd.R_drewN | apply Kd.R_drew)); exact (Kd.R_mono (Kd.R_far (p := ⟨gb243, 12, none⟩) (Kd.R_far (p := ⟨gb243, 11, none⟩) (Kd.R_far (p := ⟨gb243, 10, none⟩) (Kd.R_far (p := ⟨gb243, 9, none⟩) (Kd.R_far (p := ⟨gb243, 8, none⟩) (Kd.R_far (p := ⟨gb243, 7, none⟩) (Kd.R_far (p := ⟨gb243, 6, none⟩) (Kd.R_far (p := ⟨gb243, 5, none⟩) (Kd.R_far (p := ⟨gb243, 4, none⟩) (Kd.R_far (p := ⟨gb243, 3, none⟩) (Kd.R_far (p := ⟨gb243, 2, none⟩) (Kd.R_far (p := ⟨gb243, 1, none⟩) (Kd.R_far (p := ⟨gb243, 0, none⟩) (Kd.R_types HO235.out BK243.out (by decide)) (fun _ hk => hk.2) (.int .i64 0)) (fun _ hk => hk.2) (.bool false)) (fun _ hk => hk.2) (.int .i64 0)) (fun _ hk => hk.2) (.bool false)) (fun _ hk => hk.2) (.bool false)) (fun _ hk => hk.2) (.bool false)) (fun _ hk => hk.2) (.bool false)) (fun _ hk => hk.2) (.int .i64 0)) (fun _ hk => hk.2) (.int .i64 0)) (fun _ hk => hk.2) (.slice Ao30 y237.length co30)) (fun _ hk => hk.2) (.slice Ao29 t240.length co29)) (fun _ hk => hk.2) (.slice none 0 0)) (fun _ hk => hk.2) (.slice none 0 0)) (fun _ h_ => h_.1))) hb); have n1_ := Aside0.mk (Kd.R_below (by (with_reducible repeat (first | apply Kd.R_alloc | apply Kd.R_drewN | apply Kd.R_drew)); exact (Kd.R_mono (Kd.R_far (p := ⟨gb243, 12, none⟩) (Kd.R_far (p := ⟨gb243, 11, none⟩) (Kd.R_far (p := ⟨gb243, 10, none⟩) (Kd.R_far (p := ⟨gb243, 9, none⟩) (Kd.R_far (p := ⟨gb243, 8, none⟩) (Kd.R_far (p := ⟨gb243, 7, none⟩) (Kd.R_far (p := ⟨gb243, 6, none⟩) (Kd.R_far (p := ⟨gb243, 5, none⟩) (Kd.R_far (p := ⟨gb243, 4, none⟩) (Kd.R_far (p := ⟨gb243, 3, none⟩) (Kd.R_far (p := ⟨gb243, 2, none⟩) (Kd.R_far (p := ⟨gb243, 1, none⟩) (Kd.R_far (p := ⟨gb243, 0, none⟩) (Kd.R_types HO239.out BK243.out (by decide)) (fun _ hk => hk.2) (.int .i64 0)) (fun _ hk => hk.2) (.bool false)) (fun _ hk => hk.2) (.int .i64 0)) (fun _ hk => hk.2) (.bool false)) (fun _ hk => hk.2) (.bool false)) (fun _ hk => hk.2) (.bool false)) (fun _ hk => hk.2) (.bool false)) (fun _ hk => hk.2) (.int .i64 0)) (fun _ hk => hk.2) (.int .i64 0)) (fun _ hk => hk.2) (.slice Ao30 y237.length co30)) (fun _ hk => hk.2) (.slice Ao29 t240.length co29)) (fun _ hk => hk.2) (.slice none 0 0)) (fun _ hk => hk.2) (.slice none 0 0)) (fun _ h_ => h_.1))) hb); have n2_ := Aside0.mk (Kd.R_below (by (with_reducible repeat (first | apply Kd.R_alloc | apply Kd.R_drewN | apply Kd.R_drew)); exact (Kd.R_mono (Kd.R_far (p := ⟨gb243, 12, none⟩) (Kd.R_far (p := ⟨gb243, 11, none⟩) (Kd.R_far (p := ⟨gb243, 10, none⟩) (Kd.R_far (p := ⟨gb243, 9, none⟩) (Kd.R_far (p := ⟨gb243, 8, none⟩) (Kd.R_far (p := ⟨gb243, 7, none⟩) (Kd.R_far (p := ⟨gb243, 6, none⟩) (Kd.R_far (p := ⟨gb243, 5, none⟩) (Kd.R_far (p := ⟨gb243, 4, none⟩) (Kd.R_far (p := ⟨gb243, 3, none⟩) (Kd.R_far (p := ⟨gb243, 2, none⟩) (Kd.R_far (p := ⟨gb243, 1, none⟩) (Kd.R_far (p := ⟨gb243, 0, none⟩) (Kd.R_types HO242.out BK243.out (by decide)) (fun _ hk => hk.2) (.int .i64 0)) (fun _ hk => hk.2) (.bool false)) (fun _ hk => hk.2) (.int .i64 0)) (fun _ hk => hk.2) (.bool false)) (fun _ hk => hk.2) (.bool false)) (fun _ hk => hk.2) (.bool false)) (fun _ hk => hk.2) (.bool false)) (fun _ hk => hk.2) (.int .i64 0)) (fun _ hk => hk.2) (.int .i64 0)) (fun _ hk => hk.2) (.slice Ao30 y237.length co30)) (fun _ hk => hk.2) (.slice Ao29 t240.length co29)) (fun _ hk => hk.2) (.slice none 0 0)) (fun _ hk => hk.2) (.slice none 0 0)) (fun _ h_ => h_.1))) hb); have n3_ := Aside0.mk (blk_below (g := gb236) (o := .cells #[.string a0, .int .i64 999, .int .i64 1, .int .i64 0, .string (strOfNums y233)] 53 (0, 0)) (by (with_reducible repeat (first | refine blk_drewN ?_ _ | refine blk_drew ?_ | refine blk_alloc ?_ _)); refine blk_far ?_ NB236_243.out _; (with_reducible repeat (first | refine blk_drewN ?_ _ | refine blk_drew ?_ | refine blk_alloc ?_ _)); refine blk_far ?_ NB236_243.out _; (with_reducible repeat (first | refine blk_drewN ?_ _ | refine blk_drew ?_ | refine blk_alloc ?_ _)); refine blk_far ?_ NB236_243.out _; (with_reducible repeat (first | refine blk_drewN ?_ _ | refine blk_drew ?_ | refine blk_alloc ?_ _)); refine blk_far ?_ NB236_243.out _; (with_reducible repeat (first | refine blk_drewN ?_ _ | refine blk_drew ?_ | refine blk_alloc ?_ _)); refine blk_far ?_ NB236_243.out _; (with_reducible repeat (first | refine blk_drewN ?_ _ | refine blk_drew ?_ | refine blk_alloc ?_ _)); refine blk_far ?_ NB236_243.out _; (with_reducible repeat (first | refine blk_drewN ?_ _ | refine blk_drew ?_ | refine blk_alloc ?_ _)); refine blk_far ?_ NB236_243.out _; (with_reducible repeat (first | refine blk_drewN ?_ _ | refine blk_drew ?_ | refine blk_alloc ?_ _)); refine blk_far ?_ NB236_243.out _; (with_reducible repeat (first | refine blk_drewN ?_ _ | refine blk_drew ?_ | refine blk_alloc ?_ _)); refine blk_far ?_ NB236_243.out _; (with_reducible repeat (first | refine blk_drewN ?_ _ | refine blk_drew ?_ | refine blk_alloc ?_ _)); refine blk_far ?_ NB236_243.out _; (with_reducible repeat (first | refine blk_drewN ?_ _ | refine blk_drew ?_ | refine blk_alloc ?_ _)); refine blk_far ?_ NB236_243.out _; (with_reducible repeat (first | refine blk_drewN ?_ _ | refine blk_drew ?_ | refine blk_alloc ?_ _)); refine blk_far ?_ NB236_243.out _; (with_reducible repeat (first | refine blk_drewN ?_ _ | refine blk_drew ?_ | refine blk_alloc ?_ _)); refine blk_far ?_ NB236_243.out _; (with_reducible repeat (first | refine blk_drewN ?_ _ | refine blk_drew ?_ | refine blk_alloc ?_ _)); exact BK236.out) hb); have n4_ := Aside0.mk (blk_below (g := gb243) (o := .cells #[.int .i64 0, .bool false, .int .i64 0, .bool false, .bool false, .bool false, .bool false, .int .i64 0, .int .i64 0, .slice Ao30 y237.length co30, .slice Ao29 t240.length co29, .slice none 0 0, .slice none 0 0] 27 (0, 0)) (by (with_reducible repeat (first | refine blk_drewN ?_ _ | refine blk_drew ?_ | refine blk_alloc ?_ _)); refine blk_put (cs := #[.int .i64 0, .bool false, .int .i64 0, .bool false, .bool false, .bool false, .bool false, .int .i64 0, .int .i64 0, .slice Ao30 y237.length co30, .slice Ao29 t240.length co29, .slice none 0 0, .slice none 0 0]) ?_ 12 _ rfl; (with_reducible repeat (first | refine blk_drewN ?_ _ | refine blk_drew ?_ | refine blk_alloc ?_ _)); refine blk_put (cs := #[.int .i64 0, .bool false, .int .i64 0, .bool false, .bool false, .bool false, .bool false, .int .i64 0, .int .i64 0, .slice Ao30 y237.length co30, .slice Ao29 t240.length co29, .slice none 0 0, .slice none 0 0]) ?_ 11 _ rfl; (with_reducible repeat (first | refine blk_drewN ?_ _ | refine blk_drew ?_ | refine blk_alloc ?_ _)); refine blk_put (cs := #[.int .i64 0, .bool false, .int .i64 0, .bool false, .bool false, .bool false, .bool false, .int .i64 0, .int .i64 0, .slice Ao30 y237.length co30, .slice none 0 0, .slice none 0 0, .slice none 0 0]) ?_ 10 _ rfl; (with_reducible repeat (first | refine blk_drewN ?_ _ | refine blk_drew ?_ | refine blk_alloc ?_ _)); refine blk_put (cs := #[.int .i64 0, .bool false, .int .i64 0, .bool false, .bool false, .bool false, .bool false, .int .i64 0, .int .i64 0, .slice none 0 0, .slice none 0 0, .slice none 0 0, .slice none 0 0]) ?_ 9 _ rfl; (with_reducible repeat (first | refine blk_drewN ?_ _ | refine blk_drew ?_ | refine blk_alloc ?_ _)); refine blk_put (cs := #[.int .i64 0, .bool false, .int .i64 0, .bool false, .bool false, .bool false, .bool false, .int .i64 0, .int .i64 0, .slice none 0 0, .slice none 0 0, .slice none 0 0, .slice none 0 0]) ?_ 8 _ rfl; (with_reducible repeat (first | refine blk_drewN ?_ _ | refine blk_drew ?_ | refine blk_alloc ?_ _)); refine blk_put (cs := #[.int .i64 0, .bool false, .int .i64 0, .bool false, .bool false, .bool false, .bool false, .int .i64 0, .int .i64 0, .slice none 0 0, .slice none 0 0, .slice none 0 0, .slice none 0 0]) ?_ 7 _ rfl; (with_reducible repeat (first | refine blk_drewN ?_ _ | refine blk_drew ?_ | refine blk_alloc ?_ _)); refine blk_put (cs := #[.int .i64 0, .bool false, .int .i64 0, .bool false, .bool false, .bool false, .bool false, .int .i64 0, .int .i64 0, .slice none 0 0, .slice none 0 0, .slice none 0 0, .slice none 0 0]) ?_ 6 _ rfl; (with_reducible repeat (first | refine blk_drewN ?_ _ | refine blk_drew ?_ | refine blk_alloc ?_ _)); refine blk_put (cs := #[.int .i64 0, .bool false, .int .i64 0, .bool false, .bool false, .bool false, .bool false, .int .i64 0, .int .i64 0, .slice none 0 0, .slice none 0 0, .slice none 0 0, .slice none 0 0]) ?_ 5 _ rfl; (with_reducible repeat (first | refine blk_drewN ?_ _ | refine blk_drew ?_ | refine blk_alloc ?_ _)); refine blk_put (cs := #[.int .i64 0, .bool false, .int .i64 0, .bool false, .bool false, .bool false, .bool false, .int .i64 0, .int .i64 0, .slice none 0 0, .slice none 0 0, .slice none 0 0, .slice none 0 0]) ?_ 4 _ rfl; (with_reducible repeat (first | refine blk_drewN ?_ _ | refine blk_drew ?_ | refine blk_alloc ?_ _)); refine blk_put (cs := #[.int .i64 0, .bool false, .int .i64 0, .bool false, .bool false, .bool false, .bool false, .int .i64 0, .int .i64 0, .slice none 0 0, .slice none 0 0, .slice none 0 0, .slice none 0 0]) ?_ 3 _ rfl; (with_reducible repeat (first | refine blk_drewN ?_ _ | refine blk_drew ?_ | refine blk_alloc ?_ _)); refine blk_put (cs := #[.int .i64 0, .bool false, .int .i64 0, .bool false, .bool false, .bool false, .bool false, .int .i64 0, .int .i64 0, .slice none 0 0, .slice none 0 0, .slice none 0 0, .slice none 0 0]) ?_ 2 _ rfl; (with_reducible repeat (first | refine blk_drewN ?_ _ | refine blk_drew ?_ | refine blk_alloc ?_ _)); refine blk_put (cs := #[.int .i64 0, .bool false, .int .i64 0, .bool false, .bool false, .bool false, .bool false, .int .i64 0, .int .i64 0, .slice none 0 0, .slice none 0 0, .slice none 0 0, .slice none 0 0]) ?_ 1 _ rfl; (with_reducible repeat (first | refine blk_drewN ?_ _ | refine blk_drew ?_ | refine blk_alloc ?_ _)); refine blk_put (cs := #[.int .i64 0, .bool false, .int .i64 0, .bool false, .bool false, .bool false, .bool false, .int .i64 0, .int .i64 0, .slice none 0 0, .slice none 0 0, .slice none 0 0, .slice none 0 0]) ?_ 0 _ rfl; (with_reducible repeat (first | refine blk_drewN ?_ _ | refine blk_drew ?_ | refine blk_alloc ?_ _)); exact BK243.out) hb); have n5_ := Aside0.mk (below_step (by repeat (first | (with_reducible first | exact HB.out | apply below_alloc | apply pw_below_drewN | apply below_drew1 | refine below_set ?_ GE236.out | refine below_set ?_ GE243.out) | exact HB.out)) hb); clear HO235; clear HO239; clear HO242; clear BK236; clear BK243; clear HB; have HO235 := n0_; have HO239 := n1_; have HO242 := n2_; have BK236 := n3_; have BK243 := n4_; have HB := n5_; clear n0_ n1_ n2_ n3_ n4_ n5_; (try clear hb); (try clear hb2); (try clear hk); (try clear hi)) | ((with_reducible refine gate_dst (N := 58) rfl ?_); (try (refine gate_guard (by rfl) ?_; dsimp only)); (with_reducible refine gate_callee (f := 21) rfl ?_); refine goesL_ (some 58) rfl rfl Try.func21 (by kernel_rfl) rfl #[.int .i64 t245] rfl (by (try simp only [List.map_toArray, List.map_cons, List.map_nil]); first | done | rfl | (simp only [List.length_drop, List.length_take]; rfl)) ?_; (with_reducible refine (wimplelaw0_Num.calls t245 t246 _ A18.out).mono ?_); rintro e w' ⟨rfl, ⟨nd, rfl⟩⟩; refine ⟨_, rfl, ?_⟩))
                  go_ret
                  exact ⟨by first | rfl | (simp [errW_none, errW_some] <;> rfl) | (simp [*, errW_none, errW_some] <;> rfl), by repeat (first | (with_reducible first | exact HB.out | apply below_alloc | apply pw_below_drewN | apply below_drew1 | refine below_set ?_ GE236.out | refine below_set ?_ GE243.out) | exact HB.out)⟩
                · rw [if_neg c19] at H
                  exact absurd H (by simp)
              · rw [if_neg c17] at H
                have c17b0 : decide (4096 < (wrap64 ((wrap64 ((wrap64 (12 + (a0.size : Int))) + 4)) + (wrap64 ((Go.bits .and .i64 a1 63) * (wrap64 (12 + (Go.bits .and .i64 a2 63)))))))) = false := decide_eq_false c17
                clear c17
                replace H := Option.bind_eq_some_iff.mp H
                obtain ⟨⟨t247, t248, t249, t250, t251, t252, t253, t254, t255, t256, t259, t262, t265, t268⟩, A350, H⟩ := H
                replace H : ((wimplelaw0_Num.f t245).bind fun t270 => (if t270 = 0 then (if (t244.size : Int) = (wrap64 ((wrap64 ((wrap64 (12 + (a0.size : Int))) + 4)) + (wrap64 ((Go.bits .and .i64 a1 63) * (wrap64 (12 + (Go.bits .and .i64 a2 63))))))) then ((wimplelaw0_Num.f t268).bind fun t271 => (if t271 = 0 then ((wimplelaw0_SameMsg.f kj5 0 false 0 false false false false 0 0 y237 t240 ([] : List (S53)) ([] : List (S53)) t247 t248 t249 t250 t251 t252 t253 t254 t255 t256 t259 t262 t265).bind fun t272 => (some t272)) else (none))) else (none)) else (none))) = some r := H
                have A35 := Aside0.mk A350
                clear A350
                replace H := Option.bind_eq_some_iff.mp H
                obtain ⟨t270, A360, H⟩ := H
                replace H : (if t270 = 0 then (if (t244.size : Int) = (wrap64 ((wrap64 ((wrap64 (12 + (a0.size : Int))) + 4)) + (wrap64 ((Go.bits .and .i64 a1 63) * (wrap64 (12 + (Go.bits .and .i64 a2 63))))))) then ((wimplelaw0_Num.f t268).bind fun t271 => (if t271 = 0 then ((wimplelaw0_SameMsg.f kj5 0 false 0 false false false false 0 0 y237 t240 ([] : List (S53)) ([] : List (S53)) t247 t248 t249 t250 t251 t252 t253 t254 t255 t256 t259 t262 t265).bind fun t272 => (some t272)) else (none))) else (none)) else (none)) = some r := H
                have A36 := Aside0.mk A360
                clear A360
                by_cases c37 : t270 = 0
                · rw [if_pos c37] at H
                  have c37b0 : (t270 == 0) = true := beq_iff_eq.mpr c37
                  have c37b1 : (t270 != 0) = false := bne_eq_false_iff_eq.mpr c37
                  clear c37
                  by_cases c38 : (t244.size : Int) = (wrap64 ((wrap64 ((wrap64 (12 + (a0.size : Int))) + 4)) + (wrap64 ((Go.bits .and .i64 a1 63) * (wrap64 (12 + (Go.bits .and .i64 a2 63)))))))
                  · rw [if_pos c38] at H
                    have c38b0 : ((t244.size : Int) == (wrap64 ((wrap64 ((wrap64 (12 + (a0.size : Int))) + 4)) + (wrap64 ((Go.bits .and .i64 a1 63) * (wrap64 (12 + (Go.bits .and .i64 a2 63)))))))) = true := beq_iff_eq.mpr c38
                    have c38b1 : ((t244.size : Int) != (wrap64 ((wrap64 ((wrap64 (12 + (a0.size : Int))) + 4)) + (wrap64 ((Go.bits .and .i64 a1 63) * (wrap64 (12 + (Go.bits .and .i64 a2 63)))))))) = false := bne_eq_false_iff_eq.mpr c38
                    clear c38
                    replace H := Option.bind_eq_some_iff.mp H
                    obtain ⟨t271, A390, H⟩ := H
                    replace H : (if t271 = 0 then ((wimplelaw0_SameMsg.f kj5 0 false 0 false false false false 0 0 y237 t240 ([] : List (S53)) ([] : List (S53)) t247 t248 t249 t250 t251 t252 t253 t254 t255 t256 t259 t262 t265).bind fun t272 => (some t272)) else (none)) = some r := H
                    have A39 := Aside0.mk A390
                    clear A390
                    by_cases c40 : t271 = 0
                    · rw [if_pos c40] at H
                      have c40b0 : (t271 == 0) = true := beq_iff_eq.mpr c40
                      have c40b1 : (t271 != 0) = false := bne_eq_false_iff_eq.mpr c40
                      clear c40
                      replace H := Option.bind_eq_some_iff.mp H
                      obtain ⟨t272, A410, H⟩ := H
                      replace H : (some t272) = some r := H
                      have A41 := Aside0.mk A410
                      clear A410
                      obtain rfl := Option.some.inj H
                      go_wp2_with (first | ((with_reducible refine gate_dst (N := 31) rfl ?_); (try (refine gate_guard (by rfl) ?_; dsimp only)); refine Kd.R_make (Kd.int .u8) _ 5 rfl (N := 31) rfl 56 _ _ rfl (Go.bits .and .i64 a2 63) rfl rfl Try.underlying56 (.int .u8 0) 1 info5 rfl (by decide) (by omega) 0 (ok := fun _ => True) (okp := fun _ => True) rfl (fun _ hk => hk) trivial (of_decide_eq_true (by first | (with_reducible assumption) | assumption)) (Nat.le_trans (Nat.mul_le_mul_right _ (of_decide_eq_true (by first | (with_reducible assumption) | assumption) : (Go.bits .and .i64 a2 63).toNat ≤ 281474976710656)) (by omega)) (Below.refl _ _) (Nat.le_refl _) ?_; intro v234 w42 ho43 hb hg_ hnew_; clear hg_ hnew_; (first | rw [← Ny233.out] at ho43 | (simp only [Int.reduceToNat] at ho43; rw [← Ny233.out] at ho43)); have n0_ := Aside0.mk (Kd.R_lower ho43 (below_size (by repeat (first | (with_reducible first | exact HB.out | apply below_alloc | apply pw_below_drewN | apply below_drew1) | exact HB.out)))); have n1_ := Aside0.mk (below_step (by repeat (first | (with_reducible first | exact HB.out | apply below_alloc | apply pw_below_drewN | apply below_drew1) | exact HB.out)) hb); clear HB; have HO235 := n0_; have HB := n1_; clear n0_ n1_; clear hb ho43; have hcv44 := own_string (P := Try.prog) Try.underlying56 Try.underlying5 Try.underlying9 (Kd.own_of_R HO235.out)) | ((with_reducible refine gate_dst (N := 9) rfl ?_); (try (refine gate_guard (by rfl) ?_; dsimp only)); refine box_event ?hg (N := 9) ?hd (cs := #[.string (⟨#[]⟩ : ByteArray), .int .i64 0, .int .i64 0, .int .i64 0, .string (⟨#[]⟩ : ByteArray)]) (t := 53) ?hr ?_; (case hd => rfl); (case hg => rfl); (case hr => first | (go_simp; done) | (go_simp; rfl)); intro gb236 hg w45 hbox hb; have n0_ := Aside0.mk (Kd.R_below (by (with_reducible repeat (first | apply Kd.R_alloc | apply Kd.R_drewN | apply Kd.R_drew)); exact HO235.out) hb); have n1_ := Aside0.mk (below_step (by repeat (first | (with_reducible first | exact HB.out | apply below_alloc | apply pw_below_drewN | apply below_drew1) | exact HB.out)) hb); have n2_ := Aside0.mk (hbox); have n3_ := Aside0.mk ((by rw [hg]; exact (below_size (by repeat (first | (with_reducible first | exact HB.out | apply below_alloc | apply pw_below_drewN | apply below_drew1) | exact HB.out))) : w.heap.size ≤ gb236)); have n4_ := Aside0.mk ((by rw [hg]; exact (below_size (by repeat (first | (with_reducible first | exact HB.out | apply below_alloc | apply pw_below_drewN | apply below_drew1) | exact HB.out))) : w.heap.size ≤ gb236)); clear HO235; clear HB; have HO235 := n0_; have HB := n1_; have BK236 := n2_; have GW236 := n3_; have GE236 := n4_; clear n0_ n1_ n2_ n3_ n4_; clear hb hbox hg; (try clear hcz63_0 hcz63_1 hcz63_2 hcz63_3 hcz63_4 hcz63_5 hcz63_6 hcz63_7 hcz63_8 hcz63_9 hcz63_10 hcz63_11 hcz63_12 hfz63_0 hfz63_1 hfz63_2 hfz63_3 hfz63_4 hfz63_5 hfz63_6 hfz63_7 hfz63_8 hfz63_9 hfz63_10 hfz63_11 hfz63_12); (try clear hcz64_0 hcz64_1 hcz64_2 hcz64_3 hcz64_4 hcz64_5 hcz64_6 hcz64_7 hcz64_8 hcz64_9 hcz64_10 hcz64_11 hcz64_12 hfz64_0 hfz64_1 hfz64_2 hfz64_3 hfz64_4 hfz64_5 hfz64_6 hfz64_7 hfz64_8 hfz64_9 hfz64_10 hfz64_11 hfz64_12); (try clear hcz6_0 hcz6_1 hcz6_2 hcz6_3 hcz6_4 hfz6_0 hfz6_1 hfz6_2 hfz6_3 hfz6_4); (try clear hcz24_0 hcz24_1 hcz24_2 hcz24_3 hcz24_4 hfz24_0 hfz24_1 hfz24_2 hfz24_3 hfz24_4); (try clear hcz27_0 hcz27_1 hcz27_2 hcz27_3 hcz27_4 hfz27_0 hfz27_1 hfz27_2 hfz27_3 hfz27_4); (try clear hcz33_0 hcz33_1 hcz33_2 hcz33_3 hcz33_4 hcz33_5 hcz33_6 hcz33_7 hcz33_8 hcz33_9 hcz33_10 hcz33_11 hcz33_12 hfz33_0 hfz33_1 hfz33_2 hfz33_3 hfz33_4 hfz33_5 hfz33_6 hfz33_7 hfz33_8 hfz33_9 hfz33_10 hfz33_11 hfz33_12); have hcz46_0 : w45.cell? ⟨gb236, 0, none⟩ = some (.string (⟨#[]⟩ : ByteArray)) := (blk_cell BK236.out 0).trans rfl; have hcz46_1 : w45.cell? ⟨gb236, 1, none⟩ = some (.int .i64 0) := (blk_cell BK236.out 1).trans rfl; have hcz46_2 : w45.cell? ⟨gb236, 2, none⟩ = some (.int .i64 0) := (blk_cell BK236.out 2).trans rfl; have hcz46_3 : w45.cell? ⟨gb236, 3, none⟩ = some (.int .i64 0) := (blk_cell BK236.out 3).trans rfl; have hcz46_4 : w45.cell? ⟨gb236, 4, none⟩ = some (.string (⟨#[]⟩ : ByteArray)) := (blk_cell BK236.out 4).trans rfl; have hfz46_0 := blk_frozen BK236.out 0; have hfz46_1 := blk_frozen BK236.out 1; have hfz46_2 := blk_frozen BK236.out 2; have hfz46_3 := blk_frozen BK236.out 3; have hfz46_4 := blk_frozen BK236.out 4) | ((with_reducible refine gate_dst (N := 36) rfl ?_); (try (refine gate_guard (by rfl) ?_; dsimp only)); refine Kd.R_lit k40 _ 40 ?hg (N := 36) ?hd (xs := ([(⟨a0, 1, 1⟩ : S40)] : List (S40))) (inner := [.string a0, .int .i64 1, .int .i64 1]) (ok := fun _ => True) (okp := fun _ => True) ?hr ?hp (fun _ hk => hk) trivial (Below.refl _ _) (Nat.le_refl _) (by simp) ?_; (case hd => rfl); (case hg => rfl); (case hr => first | (go_simp; done) | (go_simp; rfl)); (case hp => exact (Reps.c3 (show Kd.M k40 _ _ _ (⟨a0, 1, 1⟩ : S40) [.string a0, .int .i64 1, .int .i64 1] from (k40_mkM _ _ _ (⟨a0, 1, 1⟩ : S40) )) (Reps.none _ _))); intro v238 w47 ho48 hb hg_ hnew_; clear hg_ hnew_; (first | rw [← Ny237.out] at ho48 | (simp only [Int.reduceToNat] at ho48; rw [← Ny237.out] at ho48)); have n0_ := Aside0.mk (Kd.R_below (by (with_reducible repeat (first | apply Kd.R_alloc | apply Kd.R_drewN | apply Kd.R_drew)); exact (Kd.R_mono (Kd.R_far (p := ⟨gb236, 4, none⟩) (Kd.R_far (p := ⟨gb236, 3, none⟩) (Kd.R_far (p := ⟨gb236, 2, none⟩) (Kd.R_far (p := ⟨gb236, 1, none⟩) (Kd.R_far (p := ⟨gb236, 0, none⟩) (Kd.R_types HO235.out BK236.out (by decide)) (fun _ hk => hk.2) (.string a0)) (fun _ hk => hk.2) (.int .i64 999)) (fun _ hk => hk.2) (.int .i64 1)) (fun _ hk => hk.2) (.int .i64 0)) (fun _ hk => hk.2) (.string (strOfNums y233))) (fun _ h_ => h_.1))) hb); have n1_ := Aside0.mk (Kd.R_lower ho48 (below_size (by repeat (first | (with_reducible first | exact HB.out | apply below_alloc | apply pw_below_drewN | apply below_drew1 | refine below_set ?_ GE236.out) | exact HB.out)))); have n2_ := Aside0.mk (blk_below (g := gb236) (o := .cells #[.string a0, .int .i64 999, .int .i64 1, .int .i64 0, .string (strOfNums y233)] 53 (0, 0)) (by (with_reducible repeat (first | refine blk_drewN ?_ _ | refine blk_drew ?_ | refine blk_alloc ?_ _)); refine blk_put (cs := #[.string a0, .int .i64 999, .int .i64 1, .int .i64 0, .string (⟨#[]⟩ : ByteArray)]) ?_ 4 _ rfl; (with_reducible repeat (first | refine blk_drewN ?_ _ | refine blk_drew ?_ | refine blk_alloc ?_ _)); refine blk_put (cs := #[.string a0, .int .i64 999, .int .i64 1, .int .i64 0, .string (⟨#[]⟩ : ByteArray)]) ?_ 3 _ rfl; (with_reducible repeat (first | refine blk_drewN ?_ _ | refine blk_drew ?_ | refine blk_alloc ?_ _)); refine blk_put (cs := #[.string a0, .int .i64 999, .int .i64 0, .int .i64 0, .string (⟨#[]⟩ : ByteArray)]) ?_ 2 _ rfl; (with_reducible repeat (first | refine blk_drewN ?_ _ | refine blk_drew ?_ | refine blk_alloc ?_ _)); refine blk_put (cs := #[.string a0, .int .i64 0, .int .i64 0, .int .i64 0, .string (⟨#[]⟩ : ByteArray)]) ?_ 1 _ rfl; (with_reducible repeat (first | refine blk_drewN ?_ _ | refine blk_drew ?_ | refine blk_alloc ?_ _)); refine blk_put (cs := #[.string (⟨#[]⟩ : ByteArray), .int .i64 0, .int .i64 0, .int .i64 0, .string (⟨#[]⟩ : ByteArray)]) ?_ 0 _ rfl; (with_reducible repeat (first | refine blk_drewN ?_ _ | refine blk_drew ?_ | refine blk_alloc ?_ _)); exact BK236.out) hb); have n3_ := Aside0.mk (below_step (by repeat (first | (with_reducible first | exact HB.out | apply below_alloc | apply pw_below_drewN | apply below_drew1 | refine below_set ?_ GE236.out) | exact HB.out)) hb); clear HO235; clear BK236; clear HB; have HO235 := n0_; have HO239 := n1_; have BK236 := n2_; have HB := n3_; clear n0_ n1_ n2_ n3_; clear hb ho48; (try clear hcz64_0 hcz64_1 hcz64_2 hcz64_3 hcz64_4 hcz64_5 hcz64_6 hcz64_7 hcz64_8 hcz64_9 hcz64_10 hcz64_11 hcz64_12 hfz64_0 hfz64_1 hfz64_2 hfz64_3 hfz64_4 hfz64_5 hfz64_6 hfz64_7 hfz64_8 hfz64_9 hfz64_10 hfz64_11 hfz64_12); (try clear hcz6_0 hcz6_1 hcz6_2 hcz6_3 hcz6_4 hfz6_0 hfz6_1 hfz6_2 hfz6_3 hfz6_4); (try clear hcz24_0 hcz24_1 hcz24_2 hcz24_3 hcz24_4 hfz24_0 hfz24_1 hfz24_2 hfz24_3 hfz24_4); (try clear hcz27_0 hcz27_1 hcz27_2 hcz27_3 hcz27_4 hfz27_0 hfz27_1 hfz27_2 hfz27_3 hfz27_4); (try clear hcz33_0 hcz33_1 hcz33_2 hcz33_3 hcz33_4 hcz33_5 hcz33_6 hcz33_7 hcz33_8 hcz33_9 hcz33_10 hcz33_11 hcz33_12 hfz33_0 hfz33_1 hfz33_2 hfz33_3 hfz33_4 hfz33_5 hfz33_6 hfz33_7 hfz33_8 hfz33_9 hfz33_10 hfz33_11 hfz33_12); (try clear hcz46_0 hcz46_1 hcz46_2 hcz46_3 hcz46_4 hfz46_0 hfz46_1 hfz46_2 hfz46_3 hfz46_4); have hcz49_0 : w47.cell? ⟨gb236, 0, none⟩ = some (.string a0) := (blk_cell BK236.out 0).trans rfl; have hcz49_1 : w47.cell? ⟨gb236, 1, none⟩ = some (.int .i64 999) := (blk_cell BK236.out 1).trans rfl; have hcz49_2 : w47.cell? ⟨gb236, 2, none⟩ = some (.int .i64 1) := (blk_cell BK236.out 2).trans rfl; have hcz49_3 : w47.cell? ⟨gb236, 3, none⟩ = some (.int .i64 0) := (blk_cell BK236.out 3).trans rfl; have hcz49_4 : w47.cell? ⟨gb236, 4, none⟩ = some (.string (strOfNums y233)) := (blk_cell BK236.out 4).trans rfl; have hfz49_0 := blk_frozen BK236.out 0; have hfz49_1 := blk_frozen BK236.out 1; have hfz49_2 := blk_frozen BK236.out 2; have hfz49_3 := blk_frozen BK236.out 3; have hfz49_4 := blk_frozen BK236.out 4) | ((with_reducible refine gate_dst (N := 39) rfl ?_); (try (refine gate_guard (by rfl) ?_; dsimp only)); (with_reducible refine gate_callee (f := 36) rfl ?_); refine goesL_ (some 39) rfl rfl Try.func36 (by kernel_rfl) rfl #[.agg #[.string a0, .int .i64 999, .int .i64 1, .int .i64 0, .string (strOfNums y233)], .int .i64 (Go.bits .and .i64 a1 63)] rfl (by (try simp only [List.map_toArray, List.map_cons, List.map_nil]); first | done | rfl | (simp only [List.length_drop, List.length_take]; rfl)) ?_; (with_reducible refine (wimplelaw7_many.calls kj5 a0 999 1 0 (strOfNums y233) (Go.bits .and .i64 a1 63) t240 _ A15.out).mono ?_); rintro e w50 ⟨v241, rfl, ho0, hb⟩; refine ⟨_, rfl, ?_⟩; have n0_ := Aside0.mk (Kd.R_below (by (with_reducible repeat (first | apply Kd.R_alloc | apply Kd.R_drewN | apply Kd.R_drew)); exact HO235.out) hb); have n1_ := Aside0.mk (Kd.R_below (by (with_reducible repeat (first | apply Kd.R_alloc | apply Kd.R_drewN | apply Kd.R_drew)); exact HO239.out) hb); have n2_ := Aside0.mk (Kd.R_lower (Kd.R_newB ho0 (g := gb236) (o := .cells #[.string a0, .int .i64 999, .int .i64 1, .int .i64 0, .string (strOfNums y233)] 53 (0, 0)) (by (with_reducible repeat (first | refine blk_drewN ?_ _ | refine blk_drew ?_ | refine blk_alloc ?_ _)); exact BK236.out)) (below_size (by repeat (first | (with_reducible first | exact HB.out | apply below_alloc | apply pw_below_drewN | apply below_drew1 | refine below_set ?_ GE236.out) | exact HB.out)))); have n3_ := Aside0.mk (blk_below (g := gb236) (o := .cells #[.string a0, .int .i64 999, .int .i64 1, .int .i64 0, .string (strOfNums y233)] 53 (0, 0)) (by (with_reducible repeat (first | refine blk_drewN ?_ _ | refine blk_drew ?_ | refine blk_alloc ?_ _)); exact BK236.out) hb); have n4_ := Aside0.mk (below_step (by repeat (first | (with_reducible first | exact HB.out | apply below_alloc | apply pw_below_drewN | apply below_drew1 | refine below_set ?_ GE236.out) | exact HB.out)) hb); clear HO235; clear HO239; clear BK236; clear HB; have HO235 := n0_; have HO239 := n1_; have HO242 := n2_; have BK236 := n3_; have HB := n4_; clear n0_ n1_ n2_ n3_ n4_; (try clear hb); (try clear hb2); (try clear hk); (try clear hi); (try clear ho0); obtain ⟨Ao51, co51, eo51⟩ := Kd.R_slice HO242.out; subst eo51; obtain ⟨Ao52, co52, eo52⟩ := Kd.R_slice HO239.out; subst eo52) | ((with_reducible refine gate_dst (N := 10) rfl ?_); (try (refine gate_guard (by rfl) ?_; dsimp only)); refine box_event ?hg (N := 10) ?hd (cs := #[.int .i64 0, .bool false, .int .i64 0, .bool false, .bool false, .bool false, .bool false, .int .i64 0, .int .i64 0, .slice none 0 0, .slice none 0 0, .slice none 0 0, .slice none 0 0]) (t := 27) ?hr ?_; (case hd => rfl); (case hg => rfl); (case hr => first | (go_simp; done) | (go_simp; rfl)); intro gb243 hg w53 hbox hb; have n0_ := Aside0.mk (Kd.R_below (by (with_reducible repeat (first | apply Kd.R_alloc | apply Kd.R_drewN | apply Kd.R_drew)); exact HO235.out) hb); have n1_ := Aside0.mk (Kd.R_below (by (with_reducible repeat (first | apply Kd.R_alloc | apply Kd.R_drewN | apply Kd.R_drew)); exact HO239.out) hb); have n2_ := Aside0.mk (Kd.R_below (by (with_reducible repeat (first | apply Kd.R_alloc | apply Kd.R_drewN | apply Kd.R_drew)); exact HO242.out) hb); have n3_ := Aside0.mk (blk_below (g := gb236) (o := .cells #[.string a0, .int .i64 999, .int .i64 1, .int .i64 0, .string (strOfNums y233)] 53 (0, 0)) (by (with_reducible repeat (first | refine blk_drewN ?_ _ | refine blk_drew ?_ | refine blk_alloc ?_ _)); exact BK236.out) hb); have n4_ := Aside0.mk (below_step (by repeat (first | (with_reducible first | exact HB.out | apply below_alloc | apply pw_below_drewN | apply below_drew1 | refine below_set ?_ GE236.out) | exact HB.out)) hb); have n5_ := Aside0.mk (hbox); have n6_ := Aside0.mk ((by rw [hg]; exact (below_size (by repeat (first | (with_reducible first | exact HB.out | apply below_alloc | apply pw_below_drewN | apply below_drew1 | refine below_set ?_ GE236.out) | exact HB.out))) : w.heap.size ≤ gb243)); have n7_ := Aside0.mk ((by rw [hg]; exact (below_size (by repeat (first | (with_reducible first | exact HB.out | apply below_alloc | apply pw_below_drewN | apply below_drew1 | refine below_set ?_ GE236.out) | exact HB.out))) : w.heap.size ≤ gb243)); have n8_ := Aside0.mk ((by rw [hg]; exact Nat.ne_of_lt (blk_lt (g := gb236) (o := .cells #[.string a0, .int .i64 999, .int .i64 1, .int .i64 0, .string (strOfNums y233)] 53 (0, 0)) (by (with_reducible repeat (first | refine blk_drewN ?_ _ | refine blk_drew ?_ | refine blk_alloc ?_ _)); exact BK236.out)) : gb236 ≠ gb243)); have n9_ := Aside0.mk ((by rw [hg]; exact Nat.ne_of_gt (blk_lt (g := gb236) (o := .cells #[.string a0, .int .i64 999, .int .i64 1, .int .i64 0, .string (strOfNums y233)] 53 (0, 0)) (by (with_reducible repeat (first | refine blk_drewN ?_ _ | refine blk_drew ?_ | refine blk_alloc ?_ _)); exact BK236.out)) : gb243 ≠ gb236)); clear HO235; clear HO239; clear HO242; clear BK236; clear HB; have HO235 := n0_; have HO239 := n1_; have HO242 := n2_; have BK236 := n3_; have HB := n4_; have BK243 := n5_; have GW243 := n6_; have GE243 := n7_; have NB236_243 := n8_; have NB243_236 := n9_; clear n0_ n1_ n2_ n3_ n4_ n5_ n6_ n7_ n8_ n9_; clear hb hbox hg; have hnb54 := NB243_236.out; have hnc54 := NB236_243.out; (try clear hcz6_0 hcz6_1 hcz6_2 hcz6_3 hcz6_4 hfz6_0 hfz6_1 hfz6_2 hfz6_3 hfz6_4); (try clear hcz24_0 hcz24_1 hcz24_2 hcz24_3 hcz24_4 hfz24_0 hfz24_1 hfz24_2 hfz24_3 hfz24_4); (try clear hcz27_0 hcz27_1 hcz27_2 hcz27_3 hcz27_4 hfz27_0 hfz27_1 hfz27_2 hfz27_3 hfz27_4); (try clear hcz33_0 hcz33_1 hcz33_2 hcz33_3 hcz33_4 hcz33_5 hcz33_6 hcz33_7 hcz33_8 hcz33_9 hcz33_10 hcz33_11 hcz33_12 hfz33_0 hfz33_1 hfz33_2 hfz33_3 hfz33_4 hfz33_5 hfz33_6 hfz33_7 hfz33_8 hfz33_9 hfz33_10 hfz33_11 hfz33_12); (try clear hcz46_0 hcz46_1 hcz46_2 hcz46_3 hcz46_4 hfz46_0 hfz46_1 hfz46_2 hfz46_3 hfz46_4); (try clear hcz49_0 hcz49_1 hcz49_2 hcz49_3 hcz49_4 hfz49_0 hfz49_1 hfz49_2 hfz49_3 hfz49_4); have hcz55_0 : w53.cell? ⟨gb243, 0, none⟩ = some (.int .i64 0) := (blk_cell BK243.out 0).trans rfl; have hcz55_1 : w53.cell? ⟨gb243, 1, none⟩ = some (.bool false) := (blk_cell BK243.out 1).trans rfl; have hcz55_2 : w53.cell? ⟨gb243, 2, none⟩ = some (.int .i64 0) := (blk_cell BK243.out 2).trans rfl; have hcz55_3 : w53.cell? ⟨gb243, 3, none⟩ = some (.bool false) := (blk_cell BK243.out 3).trans rfl; have hcz55_4 : w53.cell? ⟨gb243, 4, none⟩ = some (.bool false) := (blk_cell BK243.out 4).trans rfl; have hcz55_5 : w53.cell? ⟨gb243, 5, none⟩ = some (.bool false) := (blk_cell BK243.out 5).trans rfl; have hcz55_6 : w53.cell? ⟨gb243, 6, none⟩ = some (.bool false) := (blk_cell BK243.out 6).trans rfl; have hcz55_7 : w53.cell? ⟨gb243, 7, none⟩ = some (.int .i64 0) := (blk_cell BK243.out 7).trans rfl; have hcz55_8 : w53.cell? ⟨gb243, 8, none⟩ = some (.int .i64 0) := (blk_cell BK243.out 8).trans rfl; have hcz55_9 : w53.cell? ⟨gb243, 9, none⟩ = some (.slice none 0 0) := (blk_cell BK243.out 9).trans rfl; have hcz55_10 : w53.cell? ⟨gb243, 10, none⟩ = some (.slice none 0 0) := (blk_cell BK243.out 10).trans rfl; have hcz55_11 : w53.cell? ⟨gb243, 11, none⟩ = some (.slice none 0 0) := (blk_cell BK243.out 11).trans rfl; have hcz55_12 : w53.cell? ⟨gb243, 12, none⟩ = some (.slice none 0 0) := (blk_cell BK243.out 12).trans rfl; have hfz55_0 := blk_frozen BK243.out 0; have hfz55_1 := blk_frozen BK243.out 1; have hfz55_2 := blk_frozen BK243.out 2; have hfz55_3 := blk_frozen BK243.out 3; have hfz55_4 := blk_frozen BK243.out 4; have hfz55_5 := blk_frozen BK243.out 5; have hfz55_6 := blk_frozen BK243.out 6; have hfz55_7 := blk_frozen BK243.out 7; have hfz55_8 := blk_frozen BK243.out 8; have hfz55_9 := blk_frozen BK243.out 9; have hfz55_10 := blk_frozen BK243.out 10; have hfz55_11 := blk_frozen BK243.out 11; have hfz55_12 := blk_frozen BK243.out 12) | ((with_reducible refine gate_dst (N := 43) rfl ?_); (try (refine gate_guard (by rfl) ?_; dsimp only)); (with_reducible refine gate_callee (f := 34) rfl ?_); refine goesL_ (some 43) rfl rfl Try.func34 (by kernel_rfl) rfl #[.agg #[.int .i64 0, .bool false, .int .i64 0, .bool false, .bool false, .bool false, .bool false, .int .i64 0, .int .i64 0, .slice Ao52 y237.length co52, .slice Ao51 t240.length co51, .slice none 0 0, .slice none 0 0]] rfl (by (try simp only [List.map_toArray, List.map_cons, List.map_nil]); first | done | rfl | (simp only [List.length_drop, List.length_take]; rfl)) ?_; (refine (wire_Put.calls 0 false 0 false false false false 0 0 _ _ y237 _ _ t240 _ _ ([] : List (S53)) _ _ ([] : List (S53)) t244 t245 _ ?side1 ?side2 ?side3 ?side4 ?side5 ?side6 ?side7 ?side8 A16.out).mono ?_); (case side1 => refine (Kd.R_reads' (e := 40) (base := w.heap.size) (ok := fun k_ => True) (n := y237.length) (c := co52) ?_).2.2; exact (by (with_reducible repeat (first | apply Kd.R_alloc | apply Kd.R_drewN | apply Kd.R_drew)); exact (Kd.R_mono (Kd.R_far (p := ⟨gb243, 12, none⟩) (Kd.R_far (p := ⟨gb243, 11, none⟩) (Kd.R_far (p := ⟨gb243, 10, none⟩) (Kd.R_far (p := ⟨gb243, 9, none⟩) (Kd.R_far (p := ⟨gb243, 8, none⟩) (Kd.R_far (p := ⟨gb243, 7, none⟩) (Kd.R_far (p := ⟨gb243, 6, none⟩) (Kd.R_far (p := ⟨gb243, 5, none⟩) (Kd.R_far (p := ⟨gb243, 4, none⟩) (Kd.R_far (p := ⟨gb243, 3, none⟩) (Kd.R_far (p := ⟨gb243, 2, none⟩) (Kd.R_far (p := ⟨gb243, 1, none⟩) (Kd.R_far (p := ⟨gb243, 0, none⟩) (Kd.R_types HO239.out BK243.out (by decide)) (fun _ hk => hk.2) (.int .i64 0)) (fun _ hk => hk.2) (.bool false)) (fun _ hk => hk.2) (.int .i64 0)) (fun _ hk => hk.2) (.bool false)) (fun _ hk => hk.2) (.bool false)) (fun _ hk => hk.2) (.bool false)) (fun _ hk => hk.2) (.bool false)) (fun _ hk => hk.2) (.int .i64 0)) (fun _ hk => hk.2) (.int .i64 0)) (fun _ hk => hk.2) (.slice Ao52 y237.length co52)) (fun _ hk => hk.2) (.slice Ao51 t240.length co51)) (fun _ hk => hk.2) (.slice none 0 0)) (fun _ hk => hk.2) (.slice none 0 0)) (fun _ h_ => h_.1)))); (case side2 => exact (Kd.R_reads' HO239.out).2.1); (case side3 => refine (Kd.R_reads' (e := 53) (base := w.heap.size) (ok := fun k_ => (True ∧ k_ ≠ gb236)) (n := t240.length) (c := co51) ?_).2.2; exact (by (with_reducible repeat (first | apply Kd.R_alloc | apply Kd.R_drewN | apply Kd.R_drew)); exact (Kd.R_mono (Kd.R_far (p := ⟨gb243, 12, none⟩) (Kd.R_far (p := ⟨gb243, 11, none⟩) (Kd.R_far (p := ⟨gb243, 10, none⟩) (Kd.R_far (p := ⟨gb243, 9, none⟩) (Kd.R_far (p := ⟨gb243, 8, none⟩) (Kd.R_far (p := ⟨gb243, 7, none⟩) (Kd.R_far (p := ⟨gb243, 6, none⟩) (Kd.R_far (p := ⟨gb243, 5, none⟩) (Kd.R_far (p := ⟨gb243, 4, none⟩) (Kd.R_far (p := ⟨gb243, 3, none⟩) (Kd.R_far (p := ⟨gb243, 2, none⟩) (Kd.R_far (p := ⟨gb243, 1, none⟩) (Kd.R_far (p := ⟨gb243, 0, none⟩) (Kd.R_types HO242.out BK243.out (by decide)) (fun _ hk => hk.2) (.int .i64 0)) (fun _ hk => hk.2) (.bool false)) (fun _ hk => hk.2) (.int .i64 0)) (fun _ hk => hk.2) (.bool false)) (fun _ hk => hk.2) (.bool false)) (fun _ hk => hk.2) (.bool false)) (fun _ hk => hk.2) (.bool false)) (fun _ hk => hk.2) (.int .i64 0)) (fun _ hk => hk.2) (.int .i64 0)) (fun _ hk => hk.2) (.slice Ao52 y237.length co52)) (fun _ hk => hk.2) (.slice Ao51 t240.length co51)) (fun _ hk => hk.2) (.slice none 0 0)) (fun _ hk => hk.2) (.slice none 0 0)) (fun _ h_ => h_.1)))); (case side4 => exact (Kd.R_reads' HO242.out).2.1); (case side5 => exact Kd.C_nil _ _); (case side6 => exact Nat.le_refl _); (case side7 => exact Kd.C_nil _ _); (case side8 => exact Nat.le_refl _); rintro e w56 ⟨rfl, hb⟩; refine ⟨_, rfl, ?_⟩; have n0_ := Aside0.mk (Kd.R_below (by (with_reducible repeat (first | apply Kd.R_alloc | apply Kd.R_drewN | apply Kd.R_drew)); exact (Kd.R_mono (Kd.R_far (p := ⟨gb243, 12, none⟩) (Kd.R_far (p := ⟨gb243, 11, none⟩) (Kd.R_far (p := ⟨gb243, 10, none⟩) (Kd.R_far (p := ⟨gb243, 9, none⟩) (Kd.R_far (p := ⟨gb243, 8, none⟩) (Kd.R_far (p := ⟨gb243, 7, none⟩) (Kd.R_far (p := ⟨gb243, 6, none⟩) (Kd.R_far (p := ⟨gb243, 5, none⟩) (Kd.R_far (p := ⟨gb243, 4, none⟩) (Kd.R_far (p := ⟨gb243, 3, none⟩) (Kd.R_far (p := ⟨gb243, 2, none⟩) (Kd.R_far (p := ⟨gb243, 1, none⟩) (Kd.R_far (p := ⟨gb243, 0, none⟩) (Kd.R_types HO235.out BK243.out (by decide)) (fun _ hk => hk.2) (.int .i64 0)) (fun _ hk => hk.2) (.bool false)) (fun _ hk => hk.2) (.int .i64 0)) (fun _ hk => hk.2) (.bool false)) (fun _ hk => hk.2) (.bool false)) (fun _ hk => hk.2) (.bool false)) (fun _ hk => hk.2) (.bool false)) (fun _ hk => hk.2) (.int .i64 0)) (fun _ hk => hk.2) (.int .i64 0)) (fun _ hk => hk.2) (.slice Ao52 y237.length co52)) (fun _ hk => hk.2) (.slice Ao51 t240.length co51)) (fun _ hk => hk.2) (.slice none 0 0)) (fun _ hk => hk.2) (.slice none 0 0)) (fun _ h_ => h_.1))) hb); have n1_ := Aside0.mk (Kd.R_below (by (with_reducible repeat (first | apply Kd.R_alloc | apply Kd.R_drewN | apply Kd.R_drew)); exact (Kd.R_mono (Kd.R_far (p := ⟨gb243, 12, none⟩) (Kd.R_far (p := ⟨gb243, 11, none⟩) (Kd.R_far (p := ⟨gb243, 10, none⟩) (Kd.R_far (p := ⟨gb243, 9, none⟩) (Kd.R_far (p := ⟨gb243, 8, none⟩) (Kd.R_far (p := ⟨gb243, 7, none⟩) (Kd.R_far (p := ⟨gb243, 6, none⟩) (Kd.R_far (p := ⟨gb243, 5, none⟩) (Kd.R_far (p := ⟨gb243, 4, none⟩) (Kd.R_far (p := ⟨gb243, 3, none⟩) (Kd.R_far (p := ⟨gb243, 2, none⟩) (Kd.R_far (p := ⟨gb243, 1, none⟩) (Kd.R_far (p := ⟨gb243, 0, none⟩) (Kd.R_types HO239.out BK243.out (by decide)) (fun _ hk => hk.2) (.int .i64 0)) (fun _ hk => hk.2) (.bool false)) (fun _ hk => hk.2) (.int .i64 0)) (fun _ hk => hk.2) (.bool false)) (fun _ hk => hk.2) (.bool false)) (fun _ hk => hk.2) (.bool false)) (fun _ hk => hk.2) (.bool false)) (fun _ hk => hk.2) (.int .i64 0)) (fun _ hk => hk.2) (.int .i64 0)) (fun _ hk => hk.2) (.slice Ao52 y237.length co52)) (fun _ hk => hk.2) (.slice Ao51 t240.length co51)) (fun _ hk => hk.2) (.slice none 0 0)) (fun _ hk => hk.2) (.slice none 0 0)) (fun _ h_ => h_.1))) hb); have n2_ := Aside0.mk (Kd.R_below (by (with_reducible repeat (first | apply Kd.R_alloc | apply Kd.R_drewN | apply Kd.R_drew)); exact (Kd.R_mono (Kd.R_far (p := ⟨gb243, 12, none⟩) (Kd.R_far (p := ⟨gb243, 11, none⟩) (Kd.R_far (p := ⟨gb243, 10, none⟩) (Kd.R_far (p := ⟨gb243, 9, none⟩) (Kd.R_far (p := ⟨gb243, 8, none⟩) (Kd.R_far (p := ⟨gb243, 7, none⟩) (Kd.R_far (p := ⟨gb243, 6, none⟩) (Kd.R_far (p := ⟨gb243, 5, none⟩) (Kd.R_far (p := ⟨gb243, 4, none⟩) (Kd.R_far (p := ⟨gb243, 3, none⟩) (Kd.R_far (p := ⟨gb243, 2, none⟩) (Kd.R_far (p := ⟨gb243, 1, none⟩) (Kd.R_far (p := ⟨gb243, 0, none⟩) (Kd.R_types HO242.out BK243.out (by decide)) (fun _ hk => hk.2) (.int .i64 0)) (fun _ hk => hk.2) (.bool false)) (fun _ hk => hk.2) (.int .i64 0)) (fun _ hk => hk.2) (.bool false)) (fun _ hk => hk.2) (.bool false)) (fun _ hk => hk.2) (.bool false)) (fun _ hk => hk.2) (.bool false)) (fun _ hk => hk.2) (.int .i64 0)) (fun _ hk => hk.2) (.int .i64 0)) (fun _ hk => hk.2) (.slice Ao52 y237.length co52)) (fun _ hk => hk.2) (.slice Ao51 t240.length co51)) (fun _ hk => hk.2) (.slice none 0 0)) (fun _ hk => hk.2) (.slice none 0 0)) (fun _ h_ => h_.1))) hb); have n3_ := Aside0.mk (blk_below (g := gb236) (o := .cells #[.string a0, .int .i64 999, .int .i64 1, .int .i64 0, .string (strOfNums y233)] 53 (0, 0)) (by (with_reducible repeat (first | refine blk_drewN ?_ _ | refine blk_drew ?_ | refine blk_alloc ?_ _)); refine blk_far ?_ NB236_243.out _; (with_reducible repeat (first | refine blk_drewN ?_ _ | refine blk_drew ?_ | refine blk_alloc ?_ _)); refine blk_far ?_ NB236_243.out _; (with_reducible repeat (first | refine blk_drewN ?_ _ | refine blk_drew ?_ | refine blk_alloc ?_ _)); refine blk_far ?_ NB236_243.out _; (with_reducible repeat (first | refine blk_drewN ?_ _ | refine blk_drew ?_ | refine blk_alloc ?_ _)); refine blk_far ?_ NB236_243.out _; (with_reducible repeat (first | refine blk_drewN ?_ _ | refine blk_drew ?_ | refine blk_alloc ?_ _)); refine blk_far ?_ NB236_243.out _; (with_reducible repeat (first | refine blk_drewN ?_ _ | refine blk_drew ?_ | refine blk_alloc ?_ _)); refine blk_far ?_ NB236_243.out _; (with_reducible repeat (first | refine blk_drewN ?_ _ | refine blk_drew ?_ | refine blk_alloc ?_ _)); refine blk_far ?_ NB236_243.out _; (with_reducible repeat (first | refine blk_drewN ?_ _ | refine blk_drew ?_ | refine blk_alloc ?_ _)); refine blk_far ?_ NB236_243.out _; (with_reducible repeat (first | refine blk_drewN ?_ _ | refine blk_drew ?_ | refine blk_alloc ?_ _)); refine blk_far ?_ NB236_243.out _; (with_reducible repeat (first | refine blk_drewN ?_ _ | refine blk_drew ?_ | refine blk_alloc ?_ _)); refine blk_far ?_ NB236_243.out _; (with_reducible repeat (first | refine blk_drewN ?_ _ | refine blk_drew ?_ | refine blk_alloc ?_ _)); refine blk_far ?_ NB236_243.out _; (with_reducible repeat (first | refine blk_drewN ?_ _ | refine blk_drew ?_ | refine blk_alloc ?_ _)); refine blk_far ?_ NB236_243.out _; (with_reducible repeat (first | refine blk_drewN ?_ _ | refine blk_drew ?_ | refine blk_alloc ?_ _)); refine blk_far ?_ NB236_243.out _; (with_reducible repeat (first | refine blk_drewN ?_ _ | refine blk_drew ?_ | refine blk_alloc ?_ _)); exact BK236.out) hb); have n4_ := Aside0.mk (blk_below (g := gb243) (o := .cells #[.int .i64 0, .bool false, .int .i64 0, .bool false, .bool false, .bool false, .bool false, .int .i64 0, .int .i64 0, .slice Ao52 y237.length co52, .slice Ao51 t240.length co51, .slice none 0 0, .slice none 0 0] 27 (0, 0)) (by (with_reducible repeat (first | refine blk_drewN ?_ _ | refine blk_drew ?_ | refine blk_alloc ?_ _)); refine blk_put (cs := #[.int .i64 0, .bool false, .int .i64 0, .bool false, .bool false, .bool false, .bool false, .int .i64 0, .int .i64 0, .slice Ao52 y237.length co52, .slice Ao51 t240.length co51, .slice none 0 0, .slice none 0 0]) ?_ 12 _ rfl; (with_reducible repeat (first | refine blk_drewN ?_ _ | refine blk_drew ?_ | refine blk_alloc ?_ _)); refine blk_put (cs := #[.int .i64 0, .bool false, .int .i64 0, .bool false, .bool false, .bool false, .bool false, .int .i64 0, .int .i64 0, .slice Ao52 y237.length co52, .slice Ao51 t240.length co51, .slice none 0 0, .slice none 0 0]) ?_ 11 _ rfl; (with_reducible repeat (first | refine blk_drewN ?_ _ | refine blk_drew ?_ | refine blk_alloc ?_ _)); refine blk_put (cs := #[.int .i64 0, .bool false, .int .i64 0, .bool false, .bool false, .bool false, .bool false, .int .i64 0, .int .i64 0, .slice Ao52 y237.length co52, .slice none 0 0, .slice none 0 0, .slice none 0 0]) ?_ 10 _ rfl; (with_reducible repeat (first | refine blk_drewN ?_ _ | refine blk_drew ?_ | refine blk_alloc ?_ _)); refine blk_put (cs := #[.int .i64 0, .bool false, .int .i64 0, .bool false, .bool false, .bool false, .bool false, .int .i64 0, .int .i64 0, .slice none 0 0, .slice none 0 0, .slice none 0 0, .slice none 0 0]) ?_ 9 _ rfl; (with_reducible repeat (first | refine blk_drewN ?_ _ | refine blk_drew ?_ | refine blk_alloc ?_ _)); refine blk_put (cs := #[.int .i64 0, .bool false, .int .i64 0, .bool false, .bool false, .bool false, .bool false, .int .i64 0, .int .i64 0, .slice none 0 0, .slice none 0 0, .slice none 0 0, .slice none 0 0]) ?_ 8 _ rfl; (with_reducible repeat (first | refine blk_drewN ?_ _ | refine blk_drew ?_ | refine blk_alloc ?_ _)); refine blk_put (cs := #[.int .i64 0, .bool false, .int .i64 0, .bool false, .bool false, .bool false, .bool false, .int .i64 0, .int .i64 0, .slice none 0 0, .slice none 0 0, .slice none 0 0, .slice none 0 0]) ?_ 7 _ rfl; (with_reducible repeat (first | refine blk_drewN ?_ _ | refine blk_drew ?_ | refine blk_alloc ?_ _)); refine blk_put (cs := #[.int .i64 0, .bool false, .int .i64 0, .bool false, .bool false, .bool false, .bool false, .int .i64 0, .int .i64 0, .slice none 0 0, .slice none 0 0, .slice none 0 0, .slice none 0 0]) ?_ 6 _ rfl; (with_reducible repeat (first | refine blk_drewN ?_ _ | refine blk_drew ?_ | refine blk_alloc ?_ _)); refine blk_put (cs := #[.int .i64 0, .bool false, .int .i64 0, .bool false, .bool false, .bool false, .bool false, .int .i64 0, .int .i64 0, .slice none 0 0, .slice none 0 0, .slice none 0 0, .slice none 0 0]) ?_ 5 _ rfl; (with_reducible repeat (first | refine blk_drewN ?_ _ | refine blk_drew ?_ | refine blk_alloc ?_ _)); refine blk_put (cs := #[.int .i64 0, .bool false, .int .i64 0, .bool false, .bool false, .bool false, .bool false, .int .i64 0, .int .i64 0, .slice none 0 0, .slice none 0 0, .slice none 0 0, .slice none 0 0]) ?_ 4 _ rfl; (with_reducible repeat (first | refine blk_drewN ?_ _ | refine blk_drew ?_ | refine blk_alloc ?_ _)); refine blk_put (cs := #[.int .i64 0, .bool false, .int .i64 0, .bool false, .bool false, .bool false, .bool false, .int .i64 0, .int .i64 0, .slice none 0 0, .slice none 0 0, .slice none 0 0, .slice none 0 0]) ?_ 3 _ rfl; (with_reducible repeat (first | refine blk_drewN ?_ _ | refine blk_drew ?_ | refine blk_alloc ?_ _)); refine blk_put (cs := #[.int .i64 0, .bool false, .int .i64 0, .bool false, .bool false, .bool false, .bool false, .int .i64 0, .int .i64 0, .slice none 0 0, .slice none 0 0, .slice none 0 0, .slice none 0 0]) ?_ 2 _ rfl; (with_reducible repeat (first | refine blk_drewN ?_ _ | refine blk_drew ?_ | refine blk_alloc ?_ _)); refine blk_put (cs := #[.int .i64 0, .bool false, .int .i64 0, .bool false, .bool false, .bool false, .bool false, .int .i64 0, .int .i64 0, .slice none 0 0, .slice none 0 0, .slice none 0 0, .slice none 0 0]) ?_ 1 _ rfl; (with_reducible repeat (first | refine blk_drewN ?_ _ | refine blk_drew ?_ | refine blk_alloc ?_ _)); refine blk_put (cs := #[.int .i64 0, .bool false, .int .i64 0, .bool false, .bool false, .bool false, .bool false, .int .i64 0, .int .i64 0, .slice none 0 0, .slice none 0 0, .slice none 0 0, .slice none 0 0]) ?_ 0 _ rfl; (with_reducible repeat (first | refine blk_drewN ?_ _ | refine blk_drew ?_ | refine blk_alloc ?_ _)); exact BK243.out) hb); have n5_ := Aside0.mk (below_step (by repeat (first | (with_reducible first | exact HB.out | apply below_alloc | apply pw_below_drewN | apply below_drew1 | refine below_set ?_ GE236.out | refine below_set ?_ GE243.out) | exact HB.out)) hb); clear HO235; clear HO239; clear HO242; clear BK236; clear BK243; clear HB; have HO235 := n0_; have HO239 := n1_; have HO242 := n2_; have BK236 := n3_; have BK243 := n4_; have HB := n5_; clear n0_ n1_ n2_ n3_ n4_ n5_; (try clear hb); (try clear hb2); (try clear hk); (try clear hi)) | ((with_reducible refine gate_dst (N := 66) rfl ?_); (try (refine gate_guard (by rfl) ?_; dsimp only)); (with_reducible refine gate_callee (f := 35) rfl ?_); refine goesL_ (some 66) rfl rfl Try.func35 (by kernel_rfl) rfl #[.string t244] rfl (by (try simp only [List.map_toArray, List.map_cons, List.map_nil]); first | done | rfl | (simp only [List.length_drop, List.length_take]; rfl)) ?_; (with_reducible refine (wire_Get.calls kj5 t244 t247 t248 t249 t250 t251 t252 t253 t254 t255 t256 t259 t262 t265 t268 _ A35.out).mono ?_); rintro e w57 ⟨v257, v260, v263, v266, rfl, ho0, ho1, ho2, ho3, hb⟩; refine ⟨_, rfl, ?_⟩; have n0_ := Aside0.mk (Kd.R_below (by (with_reducible repeat (first | apply Kd.R_alloc | apply Kd.R_drewN | apply Kd.R_drew)); exact HO235.out) hb); have n1_ := Aside0.mk (Kd.R_elder' (by (with_reducible repeat (first | apply Kd.R_alloc | apply Kd.R_drewN | apply Kd.R_drew)); exact HO239.out) (Kd.R_base ho0) hb); have n2_ := Aside0.mk (Kd.R_mono (Kd.R_told (Kd.R_told (Kd.R_told (Kd.R_old (by (with_reducible repeat (first | apply Kd.R_alloc | apply Kd.R_drewN | apply Kd.R_drew)); exact HO242.out) hb) (Kd.R_base ho1)) (Kd.R_base ho2)) (Kd.R_base ho3)) (fun _ h_ => h_.1)); have n3_ := Aside0.mk (Kd.R_lower (Kd.R_new' ho0 (Kd.R_lt (by (with_reducible repeat (first | apply Kd.R_alloc | apply Kd.R_drewN | apply Kd.R_drew)); exact HO239.out))) (below_size (by repeat (first | (with_reducible first | exact HB.out | apply below_alloc | apply pw_below_drewN | apply below_drew1 | refine below_set ?_ GE236.out | refine below_set ?_ GE243.out) | exact HB.out)))); have n4_ := Aside0.mk (Kd.R_lower (Kd.R_newB (Kd.R_new' ho1 (Kd.R_lt (by (with_reducible repeat (first | apply Kd.R_alloc | apply Kd.R_drewN | apply Kd.R_drew)); exact HO242.out))) (g := gb236) (o := .cells #[.string a0, .int .i64 999, .int .i64 1, .int .i64 0, .string (strOfNums y233)] 53 (0, 0)) (by (with_reducible repeat (first | refine blk_drewN ?_ _ | refine blk_drew ?_ | refine blk_alloc ?_ _)); exact BK236.out)) (below_size (by repeat (first | (with_reducible first | exact HB.out | apply below_alloc | apply pw_below_drewN | apply below_drew1 | refine below_set ?_ GE236.out | refine below_set ?_ GE243.out) | exact HB.out)))); have n5_ := Aside0.mk (Kd.R_lower (Kd.R_newB (Kd.R_new' ho2 (Kd.R_lt (by (with_reducible repeat (first | apply Kd.R_alloc | apply Kd.R_drewN | apply Kd.R_drew)); exact HO242.out))) (g := gb236) (o := .cells #[.string a0, .int .i64 999, .int .i64 1, .int .i64 0, .string (strOfNums y233)] 53 (0, 0)) (by (with_reducible repeat (first | refine blk_drewN ?_ _ | refine blk_drew ?_ | refine blk_alloc ?_ _)); exact BK236.out)) (below_size (by repeat (first | (with_reducible first | exact HB.out | apply below_alloc | apply pw_below_drewN | apply below_drew1 | refine below_set ?_ GE236.out | refine below_set ?_ GE243.out) | exact HB.out)))); have n6_ := Aside0.mk (Kd.R_lower (Kd.R_newB (Kd.R_new' ho3 (Kd.R_lt (by (with_reducible repeat (first | apply Kd.R_alloc | apply Kd.R_drewN | apply Kd.R_drew)); exact HO242.out))) (g := gb236) (o := .cells #[.string a0, .int .i64 999, .int .i64 1, .int .i64 0, .string (strOfNums y233)] 53 (0, 0)) (by (with_reducible repeat (first | refine blk_drewN ?_ _ | refine blk_drew ?_ | refine blk_alloc ?_ _)); exact BK236.out)) (below_size (by repeat (first | (with_reducible first | exact HB.out | apply below_alloc | apply pw_below_drewN | apply below_drew1 | refine below_set ?_ GE236.out | refine below_set ?_ GE243.out) | exact HB.out)))); have n7_ := Aside0.mk (blk_below (g := gb236) (o := .cells #[.string a0, .int .i64 999, .int .i64 1, .int .i64 0, .string (strOfNums y233)] 53 (0, 0)) (by (with_reducible repeat (first | refine blk_drewN ?_ _ | refine blk_drew ?_ | refine blk_alloc ?_ _)); exact BK236.out) hb); have n8_ := Aside0.mk (blk_below (g := gb243) (o := .cells #[.int .i64 0, .bool false, .int .i64 0, .bool false, .bool false, .bool false, .bool false, .int .i64 0, .int .i64 0, .slice Ao52 y237.length co52, .slice Ao51 t240.length co51, .slice none 0 0, .slice none 0 0] 27 (0, 0)) (by (with_reducible repeat (first | refine blk_drewN ?_ _ | refine blk_drew ?_ | refine blk_alloc ?_ _)); exact BK243.out) hb); have n9_ := Aside0.mk (below_step (by repeat (first | (with_reducible first | exact HB.out | apply below_alloc | apply pw_below_drewN | apply below_drew1 | refine below_set ?_ GE236.out | refine below_set ?_ GE243.out) | exact HB.out)) hb); clear HO235; clear HO239; clear HO242; clear BK236; clear BK243; clear HB; have HO235 := n0_; have HO239 := n1_; have HO242 := n2_; have HO258 := n3_; have HO261 := n4_; have HO264 := n5_; have HO267 := n6_; have BK236 := n7_; have BK243 := n8_; have HB := n9_; clear n0_ n1_ n2_ n3_ n4_ n5_ n6_ n7_ n8_ n9_; (try clear hb); (try clear hb2); (try clear hk); (try clear hi); (try clear ho0); (try clear ho1); (try clear ho2); (try clear ho3)) | ((with_reducible refine gate_dst (N := 14) rfl ?_); (try (refine gate_guard (by rfl) ?_; dsimp only)); refine box_event ?hg (N := 14) ?hd (cs := #[.int .i64 0, .bool false, .int .i64 0, .bool false, .bool false, .bool false, .bool false, .int .i64 0, .int .i64 0, .slice none 0 0, .slice none 0 0, .slice none 0 0, .slice none 0 0]) (t := 27) ?hr ?_; (case hd => rfl); (case hg => rfl); (case hr => first | (go_simp; done) | (go_simp; rfl)); intro gb269 hg w58 hbox hb; have n0_ := Aside0.mk (Kd.R_below (by (with_reducible repeat (first | apply Kd.R_alloc | apply Kd.R_drewN | apply Kd.R_drew)); exact HO235.out) hb); have n1_ := Aside0.mk (Kd.R_below (by (with_reducible repeat (first | apply Kd.R_alloc | apply Kd.R_drewN | apply Kd.R_drew)); exact HO239.out) hb); have n2_ := Aside0.mk (Kd.R_below (by (with_reducible repeat (first | apply Kd.R_alloc | apply Kd.R_drewN | apply Kd.R_drew)); exact HO242.out) hb); have n3_ := Aside0.mk (Kd.R_below (by (with_reducible repeat (first | apply Kd.R_alloc | apply Kd.R_drewN | apply Kd.R_drew)); exact HO258.out) hb); have n4_ := Aside0.mk (Kd.R_below (by (with_reducible repeat (first | apply Kd.R_alloc | apply Kd.R_drewN | apply Kd.R_drew)); exact HO261.out) hb); have n5_ := Aside0.mk (Kd.R_below (by (with_reducible repeat (first | apply Kd.R_alloc | apply Kd.R_drewN | apply Kd.R_drew)); exact HO264.out) hb); have n6_ := Aside0.mk (Kd.R_below (by (with_reducible repeat (first | apply Kd.R_alloc | apply Kd.R_drewN | apply Kd.R_drew)); exact HO267.out) hb); have n7_ := Aside0.mk (blk_below (g := gb236) (o := .cells #[.string a0, .int .i64 999, .int .i64 1, .int .i64 0, .string (strOfNums y233)] 53 (0, 0)) (by (with_reducible repeat (first | refine blk_drewN ?_ _ | refine blk_drew ?_ | refine blk_alloc ?_ _)); exact BK236.out) hb); have n8_ := Aside0.mk (blk_below (g := gb243) (o := .cells #[.int .i64 0, .bool false, .int .i64 0, .bool false, .bool false, .bool false, .bool false, .int .i64 0, .int .i64 0, .slice Ao52 y237.length co52, .slice Ao51 t240.length co51, .slice none 0 0, .slice none 0 0] 27 (0, 0)) (by (with_reducible repeat (first | refine blk_drewN ?_ _ | refine blk_drew ?_ | refine blk_alloc ?_ _)); exact BK243.out) hb); have n9_ := Aside0.mk (below_step (by repeat (first | (with_reducible first | exact HB.out | apply below_alloc | apply pw_below_drewN | apply below_drew1 | refine below_set ?_ GE236.out | refine below_set ?_ GE243.out) | exact HB.out)) hb); have n10_ := Aside0.mk (hbox); have n11_ := Aside0.mk ((by rw [hg]; exact (below_size (by repeat (first | (with_reducible first | exact HB.out | apply below_alloc | apply pw_below_drewN | apply below_drew1 | refine below_set ?_ GE236.out | refine below_set ?_ GE243.out) | exact HB.out))) : w.heap.size ≤ gb269)); have n12_ := Aside0.mk ((by rw [hg]; exact (below_size (by repeat (first | (with_reducible first | exact HB.out | apply below_alloc | apply pw_below_drewN | apply below_drew1 | refine below_set ?_ GE236.out | refine below_set ?_ GE243.out) | exact HB.out))) : w.heap.size ≤ gb269)); have n13_ := Aside0.mk ((by rw [hg]; exact Nat.ne_of_lt (blk_lt (g := gb236) (o := .cells #[.string a0, .int .i64 999, .int .i64 1, .int .i64 0, .string (strOfNums y233)] 53 (0, 0)) (by (with_reducible repeat (first | refine blk_drewN ?_ _ | refine blk_drew ?_ | refine blk_alloc ?_ _)); exact BK236.out)) : gb236 ≠ gb269)); have n14_ := Aside0.mk ((by rw [hg]; exact Nat.ne_of_gt (blk_lt (g := gb236) (o := .cells #[.string a0, .int .i64 999, .int .i64 1, .int .i64 0, .string (strOfNums y233)] 53 (0, 0)) (by (with_reducible repeat (first | refine blk_drewN ?_ _ | refine blk_drew ?_ | refine blk_alloc ?_ _)); exact BK236.out)) : gb269 ≠ gb236)); have n15_ := Aside0.mk ((by rw [hg]; exact Nat.ne_of_lt (blk_lt (g := gb243) (o := .cells #[.int .i64 0, .bool false, .int .i64 0, .bool false, .bool false, .bool false, .bool false, .int .i64 0, .int .i64 0, .slice Ao52 y237.length co52, .slice Ao51 t240.length co51, .slice none 0 0, .slice none 0 0] 27 (0, 0)) (by (with_reducible repeat (first | refine blk_drewN ?_ _ | refine blk_drew ?_ | refine blk_alloc ?_ _)); exact BK243.out)) : gb243 ≠ gb269)); have n16_ := Aside0.mk ((by rw [hg]; exact Nat.ne_of_gt (blk_lt (g := gb243) (o := .cells #[.int .i64 0, .bool false, .int .i64 0, .bool false, .bool false, .bool false, .bool false, .int .i64 0, .int .i64 0, .slice Ao52 y237.length co52, .slice Ao51 t240.length co51, .slice none 0 0, .slice none 0 0] 27 (0, 0)) (by (with_reducible repeat (first | refine blk_drewN ?_ _ | refine blk_drew ?_ | refine blk_alloc ?_ _)); exact BK243.out)) : gb269 ≠ gb243)); clear HO235; clear HO239; clear HO242; clear HO258; clear HO261; clear HO264; clear HO267; clear BK236; clear BK243; clear HB; have HO235 := n0_; have HO239 := n1_; have HO242 := n2_; have HO258 := n3_; have HO261 := n4_; have HO264 := n5_; have HO267 := n6_; have BK236 := n7_; have BK243 := n8_; have HB := n9_; have BK269 := n10_; have GW269 := n11_; have GE269 := n12_; have NB236_269 := n13_; have NB269_236 := n14_; have NB243_269 := n15_; have NB269_243 := n16_; clear n0_ n1_ n2_ n3_ n4_ n5_ n6_ n7_ n8_ n9_ n10_ n11_ n12_ n13_ n14_ n15_ n16_; clear hb hbox hg; have hnb59 := NB269_236.out; have hnc59 := NB236_269.out; have hnb60 := NB269_243.out; have hnc60 := NB243_269.out; (try clear hcz24_0 hcz24_1 hcz24_2 hcz24_3 hcz24_4 hfz24_0 hfz24_1 hfz24_2 hfz24_3 hfz24_4); (try clear hcz27_0 hcz27_1 hcz27_2 hcz27_3 hcz27_4 hfz27_0 hfz27_1 hfz27_2 hfz27_3 hfz27_4); (try clear hcz33_0 hcz33_1 hcz33_2 hcz33_3 hcz33_4 hcz33_5 hcz33_6 hcz33_7 hcz33_8 hcz33_9 hcz33_10 hcz33_11 hcz33_12 hfz33_0 hfz33_1 hfz33_2 hfz33_3 hfz33_4 hfz33_5 hfz33_6 hfz33_7 hfz33_8 hfz33_9 hfz33_10 hfz33_11 hfz33_12); (try clear hcz46_0 hcz46_1 hcz46_2 hcz46_3 hcz46_4 hfz46_0 hfz46_1 hfz46_2 hfz46_3 hfz46_4); (try clear hcz49_0 hcz49_1 hcz49_2 hcz49_3 hcz49_4 hfz49_0 hfz49_1 hfz49_2 hfz49_3 hfz49_4); (try clear hcz55_0 hcz55_1 hcz55_2 hcz55_3 hcz55_4 hcz55_5 hcz55_6 hcz55_7 hcz55_8 hcz55_9 hcz55_10 hcz55_11 hcz55_12 hfz55_0 hfz55_1 hfz55_2 hfz55_3 hfz55_4 hfz55_5 hfz55_6 hfz55_7 hfz55_8 hfz55_9 hfz55_10 hfz55_11 hfz55_12); have hcz61_0 : w58.cell? ⟨gb269, 0, none⟩ = some (.int .i64 0) := (blk_cell BK269.out 0).trans rfl; have hcz61_1 : w58.cell? ⟨gb269, 1, none⟩ = some (.bool false) := (blk_cell BK269.out 1).trans rfl; have hcz61_2 : w58.cell? ⟨gb269, 2, none⟩ = some (.int .i64 0) := (blk_cell BK269.out 2).trans rfl; have hcz61_3 : w58.cell? ⟨gb269, 3, none⟩ = some (.bool false) := (blk_cell BK269.out 3).trans rfl; have hcz61_4 : w58.cell? ⟨gb269, 4, none⟩ = some (.bool false) := (blk_cell BK269.out 4).trans rfl; have hcz61_5 : w58.cell? ⟨gb269, 5, none⟩ = some (.bool false) := (blk_cell BK269.out 5).trans rfl; have hcz61_6 : w58.cell? ⟨gb269, 6, none⟩ = some (.bool false) := (blk_cell BK269.out 6).trans rfl; have hcz61_7 : w58.cell? ⟨gb269, 7, none⟩ = some (.int .i64 0) := (blk_cell BK269.out 7).trans rfl; have hcz61_8 : w58.cell? ⟨gb269, 8, none⟩ = some (.int .i64 0) := (blk_cell BK269.out 8).trans rfl; have hcz61_9 : w58.cell? ⟨gb269, 9, none⟩ = some (.slice none 0 0) := (blk_cell BK269.out 9).trans rfl; have hcz61_10 : w58.cell? ⟨gb269, 10, none⟩ = some (.slice none 0 0) := (blk_cell BK269.out 10).trans rfl; have hcz61_11 : w58.cell? ⟨gb269, 11, none⟩ = some (.slice none 0 0) := (blk_cell BK269.out 11).trans rfl; have hcz61_12 : w58.cell? ⟨gb269, 12, none⟩ = some (.slice none 0 0) := (blk_cell BK269.out 12).trans rfl; have hfz61_0 := blk_frozen BK269.out 0; have hfz61_1 := blk_frozen BK269.out 1; have hfz61_2 := blk_frozen BK269.out 2; have hfz61_3 := blk_frozen BK269.out 3; have hfz61_4 := blk_frozen BK269.out 4; have hfz61_5 := blk_frozen BK269.out 5; have hfz61_6 := blk_frozen BK269.out 6; have hfz61_7 := blk_frozen BK269.out 7; have hfz61_8 := blk_frozen BK269.out 8; have hfz61_9 := blk_frozen BK269.out 9; have hfz61_10 := blk_frozen BK269.out 10; have hfz61_11 := blk_frozen BK269.out 11; have hfz61_12 := blk_frozen BK269.out 12; obtain ⟨Ao62, co62, eo62⟩ := Kd.R_slice HO258.out; subst eo62; obtain ⟨Ao63, co63, eo63⟩ := Kd.R_slice HO261.out; subst eo63; obtain ⟨Ao64, co64, eo64⟩ := Kd.R_slice HO264.out; subst eo64; obtain ⟨Ao65, co65, eo65⟩ := Kd.R_slice HO267.out; subst eo65) | ((with_reducible refine gate_dst (N := 70) rfl ?_); (try (refine gate_guard (by rfl) ?_; dsimp only)); (with_reducible refine gate_callee (f := 21) rfl ?_); refine goesL_ (some 70) rfl rfl Try.func21 (by kernel_rfl) rfl #[.int .i64 t245] rfl (by (try simp only [List.map_toArray, List.map_cons, List.map_nil]); first | done | rfl | (simp only [List.length_drop, List.length_take]; rfl)) ?_; (with_reducible refine (wimplelaw0_Num.calls t245 t270 _ A36.out).mono ?_); rintro e w' ⟨rfl, ⟨nd, rfl⟩⟩; refine ⟨_, rfl, ?_⟩) | (go_at_call 21; (with_reducible refine (wimplelaw0_Num.calls t268 t271 _ A39.out).mono ?_); rintro e w' ⟨rfl, ⟨nd, rfl⟩⟩; (try clear hcz27_0 hcz27_1 hcz27_2 hcz27_3 hcz27_4 hfz27_0 hfz27_1 hfz27_2 hfz27_3 hfz27_4); (try clear hcz33_0 hcz33_1 hcz33_2 hcz33_3 hcz33_4 hcz33_5 hcz33_6 hcz33_7 hcz33_8 hcz33_9 hcz33_10 hcz33_11 hcz33_12 hfz33_0 hfz33_1 hfz33_2 hfz33_3 hfz33_4 hfz33_5 hfz33_6 hfz33_7 hfz33_8 hfz33_9 hfz33_10 hfz33_11 hfz33_12); (try clear hcz46_0 hcz46_1 hcz46_2 hcz46_3 hcz46_4 hfz46_0 hfz46_1 hfz46_2 hfz46_3 hfz46_4); (try clear hcz49_0 hcz49_1 hcz49_2 hcz49_3 hcz49_4 hfz49_0 hfz49_1 hfz49_2 hfz49_3 hfz49_4); (try clear hcz55_0 hcz55_1 hcz55_2 hcz55_3 hcz55_4 hcz55_5 hcz55_6 hcz55_7 hcz55_8 hcz55_9 hcz55_10 hcz55_11 hcz55_12 hfz55_0 hfz55_1 hfz55_2 hfz55_3 hfz55_4 hfz55_5 hfz55_6 hfz55_7 hfz55_8 hfz55_9 hfz55_10 hfz55_11 hfz55_12); have hcz66_0 : w58.cell? ⟨gb243, 0, none⟩ = some (.int .i64 0) := (blk_cell BK243.out 0).trans rfl; have hcz66_1 : w58.cell? ⟨gb243, 1, none⟩ = some (.bool false) := (blk_cell BK243.out 1).trans rfl; have hcz66_2 : w58.cell? ⟨gb243, 2, none⟩ = some (.int .i64 0) := (blk_cell BK243.out 2).trans rfl; have hcz66_3 : w58.cell? ⟨gb243, 3, none⟩ = some (.bool false) := (blk_cell BK243.out 3).trans rfl; have hcz66_4 : w58.cell? ⟨gb243, 4, none⟩ = some (.bool false) := (blk_cell BK243.out 4).trans rfl; have hcz66_5 : w58.cell? ⟨gb243, 5, none⟩ = some (.bool false) := (blk_cell BK243.out 5).trans rfl; have hcz66_6 : w58.cell? ⟨gb243, 6, none⟩ = some (.bool false) := (blk_cell BK243.out 6).trans rfl; have hcz66_7 : w58.cell? ⟨gb243, 7, none⟩ = some (.int .i64 0) := (blk_cell BK243.out 7).trans rfl; have hcz66_8 : w58.cell? ⟨gb243, 8, none⟩ = some (.int .i64 0) := (blk_cell BK243.out 8).trans rfl; have hcz66_9 : w58.cell? ⟨gb243, 9, none⟩ = some (.slice Ao52 y237.length co52) := (blk_cell BK243.out 9).trans rfl; have hcz66_10 : w58.cell? ⟨gb243, 10, none⟩ = some (.slice Ao51 t240.length co51) := (blk_cell BK243.out 10).trans rfl; have hcz66_11 : w58.cell? ⟨gb243, 11, none⟩ = some (.slice none 0 0) := (blk_cell BK243.out 11).trans rfl; have hcz66_12 : w58.cell? ⟨gb243, 12, none⟩ = some (.slice none 0 0) := (blk_cell BK243.out 12).trans rfl; have hfz66_0 := blk_frozen BK243.out 0; have hfz66_1 := blk_frozen BK243.out 1; have hfz66_2 := blk_frozen BK243.out 2; have hfz66_3 := blk_frozen BK243.out 3; have hfz66_4 := blk_frozen BK243.out 4; have hfz66_5 := blk_frozen BK243.out 5; have hfz66_6 := blk_frozen BK243.out 6; have hfz66_7 := blk_frozen BK243.out 7; have hfz66_8 := blk_frozen BK243.out 8; have hfz66_9 := blk_frozen BK243.out 9; have hfz66_10 := blk_frozen BK243.out 10; have hfz66_11 := blk_frozen BK243.out 11; have hfz66_12 := blk_frozen BK243.out 12) | (go_at_call 20; (refine (wimplelaw0_SameMsg.calls kj5 0 false 0 false false false false 0 0 _ _ y237 _ _ t240 _ _ ([] : List (S53)) _ _ ([] : List (S53)) t247 t248 t249 t250 t251 t252 t253 t254 t255 _ _ t256 _ _ t259 _ _ t262 _ _ t265 t272 _ ?side1 ?side2 ?side3 ?side4 ?side5 ?side6 ?side7 ?side8 ?side9 ?side10 ?side11 ?side12 ?side13 ?side14 ?side15 ?side16 A41.out).mono ?_); (case side1 => refine (Kd.R_reads' (e := 40) (base := w.heap.size) (ok := fun k_ => (True ∧ some k_ ≠ (.slice Ao62 t256.length co62 : Value).ownBlock)) (n := y237.length) (c := co52) ?_).2.2; exact (by (with_reducible repeat (first | apply Kd.R_alloc | apply Kd.R_drewN | apply Kd.R_drew)); exact (Kd.R_mono (Kd.R_far (p := ⟨gb269, 12, none⟩) (Kd.R_far (p := ⟨gb269, 11, none⟩) (Kd.R_far (p := ⟨gb269, 10, none⟩) (Kd.R_far (p := ⟨gb269, 9, none⟩) (Kd.R_far (p := ⟨gb269, 8, none⟩) (Kd.R_far (p := ⟨gb269, 7, none⟩) (Kd.R_far (p := ⟨gb269, 6, none⟩) (Kd.R_far (p := ⟨gb269, 5, none⟩) (Kd.R_far (p := ⟨gb269, 4, none⟩) (Kd.R_far (p := ⟨gb269, 3, none⟩) (Kd.R_far (p := ⟨gb269, 2, none⟩) (Kd.R_far (p := ⟨gb269, 1, none⟩) (Kd.R_far (p := ⟨gb269, 0, none⟩) (Kd.R_types HO239.out BK269.out (by decide)) (fun _ hk => hk.2) (.int .i64 t247)) (fun _ hk => hk.2) (.bool t248)) (fun _ hk => hk.2) (.int .i64 t249)) (fun _ hk => hk.2) (.bool t250)) (fun _ hk => hk.2) (.bool t251)) (fun _ hk => hk.2) (.bool t252)) (fun _ hk => hk.2) (.bool t253)) (fun _ hk => hk.2) (.int .i64 t254)) (fun _ hk => hk.2) (.int .i64 t255)) (fun _ hk => hk.2) (.slice Ao62 t256.length co62)) (fun _ hk => hk.2) (.slice Ao63 t259.length co63)) (fun _ hk => hk.2) (.slice Ao64 t262.length co64)) (fun _ hk => hk.2) (.slice Ao65 t265.length co65)) (fun _ h_ => h_.1)))); (case side2 => exact (Kd.R_reads' HO239.out).2.1); (case side3 => refine (Kd.R_reads' (e := 53) (base := w.heap.size) (ok := fun k_ => ((((True ∧ k_ ≠ gb236) ∧ some k_ ≠ (.slice Ao63 t259.length co63 : Value).ownBlock) ∧ some k_ ≠ (.slice Ao64 t262.length co64 : Value).ownBlock) ∧ some k_ ≠ (.slice Ao65 t265.length co65 : Value).ownBlock)) (n := t240.length) (c := co51) ?_).2.2; exact (by (with_reducible repeat (first | apply Kd.R_alloc | apply Kd.R_drewN | apply Kd.R_drew)); exact (Kd.R_mono (Kd.R_far (p := ⟨gb269, 12, none⟩) (Kd.R_far (p := ⟨gb269, 11, none⟩) (Kd.R_far (p := ⟨gb269, 10, none⟩) (Kd.R_far (p := ⟨gb269, 9, none⟩) (Kd.R_far (p := ⟨gb269, 8, none⟩) (Kd.R_far (p := ⟨gb269, 7, none⟩) (Kd.R_far (p := ⟨gb269, 6, none⟩) (Kd.R_far (p := ⟨gb269, 5, none⟩) (Kd.R_far (p := ⟨gb269, 4, none⟩) (Kd.R_far (p := ⟨gb269, 3, none⟩) (Kd.R_far (p := ⟨gb269, 2, none⟩) (Kd.R_far (p := ⟨gb269, 1, none⟩) (Kd.R_far (p := ⟨gb269, 0, none⟩) (Kd.R_types HO242.out BK269.out (by decide)) (fun _ hk => hk.2) (.int .i64 t247)) (fun _ hk => hk.2) (.bool t248)) (fun _ hk => hk.2) (.int .i64 t249)) (fun _ hk => hk.2) (.bool t250)) (fun _ hk => hk.2) (.bool t251)) (fun _ hk => hk.2) (.bool t252)) (fun _ hk => hk.2) (.bool t253)) (fun _ hk => hk.2) (.int .i64 t254)) (fun _ hk => hk.2) (.int .i64 t255)) (fun _ hk => hk.2) (.slice Ao62 t256.length co62)) (fun _ hk => hk.2) (.slice Ao63 t259.length co63)) (fun _ hk => hk.2) (.slice Ao64 t262.length co64)) (fun _ hk => hk.2) (.slice Ao65 t265.length co65)) (fun _ h_ => h_.1)))); (case side4 => exact (Kd.R_reads' HO242.out).2.1); (case side5 => exact Kd.C_nil _ _); (case side6 => exact Nat.le_refl _); (case side7 => exact Kd.C_nil _ _); (case side8 => exact Nat.le_refl _); (case side9 => refine (Kd.R_reads' (e := 40) (base := w.heap.size) (ok := fun k_ => (True ∧ some k_ ≠ (.slice Ao52 y237.length co52 : Value).ownBlock)) (n := t256.length) (c := co62) ?_).2.2; exact (by (with_reducible repeat (first | apply Kd.R_alloc | apply Kd.R_drewN | apply Kd.R_drew)); exact (Kd.R_mono (Kd.R_far (p := ⟨gb269, 12, none⟩) (Kd.R_far (p := ⟨gb269, 11, none⟩) (Kd.R_far (p := ⟨gb269, 10, none⟩) (Kd.R_far (p := ⟨gb269, 9, none⟩) (Kd.R_far (p := ⟨gb269, 8, none⟩) (Kd.R_far (p := ⟨gb269, 7, none⟩) (Kd.R_far (p := ⟨gb269, 6, none⟩) (Kd.R_far (p := ⟨gb269, 5, none⟩) (Kd.R_far (p := ⟨gb269, 4, none⟩) (Kd.R_far (p := ⟨gb269, 3, none⟩) (Kd.R_far (p := ⟨gb269, 2, none⟩) (Kd.R_far (p := ⟨gb269, 1, none⟩) (Kd.R_far (p := ⟨gb269, 0, none⟩) (Kd.R_types HO258.out BK269.out (by decide)) (fun _ hk => hk.2) (.int .i64 t247)) (fun _ hk => hk.2) (.bool t248)) (fun _ hk => hk.2) (.int .i64 t249)) (fun _ hk => hk.2) (.bool t250)) (fun _ hk => hk.2) (.bool t251)) (fun _ hk => hk.2) (.bool t252)) (fun _ hk => hk.2) (.bool t253)) (fun _ hk => hk.2) (.int .i64 t254)) (fun _ hk => hk.2) (.int .i64 t255)) (fun _ hk => hk.2) (.slice Ao62 t256.length co62)) (fun _ hk => hk.2) (.slice Ao63 t259.length co63)) (fun _ hk => hk.2) (.slice Ao64 t262.length co64)) (fun _ hk => hk.2) (.slice Ao65 t265.length co65)) (fun _ h_ => h_.1)))); (case side10 => exact (Kd.R_reads' HO258.out).2.1); (case side11 => refine (Kd.R_reads' (e := 53) (base := w.heap.size) (ok := fun k_ => (((some k_ ≠ (.slice Ao64 t262.length co64 : Value).ownBlock ∧ some k_ ≠ (.slice Ao65 t265.length co65 : Value).ownBlock) ∧ some k_ ≠ (.slice Ao51 t240.length co51 : Value).ownBlock) ∧ k_ ≠ gb236)) (n := t259.length) (c := co63) ?_).2.2; exact (by (with_reducible repeat (first | apply Kd.R_alloc | apply Kd.R_drewN | apply Kd.R_drew)); exact (Kd.R_mono (Kd.R_far (p := ⟨gb269, 12, none⟩) (Kd.R_far (p := ⟨gb269, 11, none⟩) (Kd.R_far (p := ⟨gb269, 10, none⟩) (Kd.R_far (p := ⟨gb269, 9, none⟩) (Kd.R_far (p := ⟨gb269, 8, none⟩) (Kd.R_far (p := ⟨gb269, 7, none⟩) (Kd.R_far (p := ⟨gb269, 6, none⟩) (Kd.R_far (p := ⟨gb269, 5, none⟩) (Kd.R_far (p := ⟨gb269, 4, none⟩) (Kd.R_far (p := ⟨gb269, 3, none⟩) (Kd.R_far (p := ⟨gb269, 2, none⟩) (Kd.R_far (p := ⟨gb269, 1, none⟩) (Kd.R_far (p := ⟨gb269, 0, none⟩) (Kd.R_types HO261.out BK269.out (by decide)) (fun _ hk => hk.2) (.int .i64 t247)) (fun _ hk => hk.2) (.bool t248)) (fun _ hk => hk.2) (.int .i64 t249)) (fun _ hk => hk.2) (.bool t250)) (fun _ hk => hk.2) (.bool t251)) (fun _ hk => hk.2) (.bool t252)) (fun _ hk => hk.2) (.bool t253)) (fun _ hk => hk.2) (.int .i64 t254)) (fun _ hk => hk.2) (.int .i64 t255)) (fun _ hk => hk.2) (.slice Ao62 t256.length co62)) (fun _ hk => hk.2) (.slice Ao63 t259.length co63)) (fun _ hk => hk.2) (.slice Ao64 t262.length co64)) (fun _ hk => hk.2) (.slice Ao65 t265.length co65)) (fun _ h_ => h_.1)))); (case side12 => exact (Kd.R_reads' HO261.out).2.1); (case side13 => refine (Kd.R_reads' (e := 53) (base := w.heap.size) (ok := fun k_ => (((some k_ ≠ (.slice Ao63 t259.length co63 : Value).ownBlock ∧ some k_ ≠ (.slice Ao65 t265.length co65 : Value).ownBlock) ∧ some k_ ≠ (.slice Ao51 t240.length co51 : Value).ownBlock) ∧ k_ ≠ gb236)) (n := t262.length) (c := co64) ?_).2.2; exact (by (with_reducible repeat (first | apply Kd.R_alloc | apply Kd.R_drewN | apply Kd.R_drew)); exact (Kd.R_mono (Kd.R_far (p := ⟨gb269, 12, none⟩) (Kd.R_far (p := ⟨gb269, 11, none⟩) (Kd.R_far (p := ⟨gb269, 10, none⟩) (Kd.R_far (p := ⟨gb269, 9, none⟩) (Kd.R_far (p := ⟨gb269, 8, none⟩) (Kd.R_far (p := ⟨gb269, 7, none⟩) (Kd.R_far (p := ⟨gb269, 6, none⟩) (Kd.R_far (p := ⟨gb269, 5, none⟩) (Kd.R_far (p := ⟨gb269, 4, none⟩) (Kd.R_far (p := ⟨gb269, 3, none⟩) (Kd.R_far (p := ⟨gb269, 2, none⟩) (Kd.R_far (p := ⟨gb269, 1, none⟩) (Kd.R_far (p := ⟨gb269, 0, none⟩) (Kd.R_types HO264.out BK269.out (by decide)) (fun _ hk => hk.2) (.int .i64 t247)) (fun _ hk => hk.2) (.bool t248)) (fun _ hk => hk.2) (.int .i64 t249)) (fun _ hk => hk.2) (.bool t250)) (fun _ hk => hk.2) (.bool t251)) (fun _ hk => hk.2) (.bool t252)) (fun _ hk => hk.2) (.bool t253)) (fun _ hk => hk.2) (.int .i64 t254)) (fun _ hk => hk.2) (.int .i64 t255)) (fun _ hk => hk.2) (.slice Ao62 t256.length co62)) (fun _ hk => hk.2) (.slice Ao63 t259.length co63)) (fun _ hk => hk.2) (.slice Ao64 t262.length co64)) (fun _ hk => hk.2) (.slice Ao65 t265.length co65)) (fun _ h_ => h_.1)))); (case side14 => exact (Kd.R_reads' HO264.out).2.1); (case side15 => refine (Kd.R_reads' (e := 53) (base := w.heap.size) (ok := fun k_ => (((some k_ ≠ (.slice Ao63 t259.length co63 : Value).ownBlock ∧ some k_ ≠ (.slice Ao64 t262.length co64 : Value).ownBlock) ∧ some k_ ≠ (.slice Ao51 t240.length co51 : Value).ownBlock) ∧ k_ ≠ gb236)) (n := t265.length) (c := co65) ?_).2.2; exact (by (with_reducible repeat (first | apply Kd.R_alloc | apply Kd.R_drewN | apply Kd.R_drew)); exact (Kd.R_mono (Kd.R_far (p := ⟨gb269, 12, none⟩) (Kd.R_far (p := ⟨gb269, 11, none⟩) (Kd.R_far (p := ⟨gb269, 10, none⟩) (Kd.R_far (p := ⟨gb269, 9, none⟩) (Kd.R_far (p := ⟨gb269, 8, none⟩) (Kd.R_far (p := ⟨gb269, 7, none⟩) (Kd.R_far (p := ⟨gb269, 6, none⟩) (Kd.R_far (p := ⟨gb269, 5, none⟩) (Kd.R_far (p := ⟨gb269, 4, none⟩) (Kd.R_far (p := ⟨gb269, 3, none⟩) (Kd.R_far (p := ⟨gb269, 2, none⟩) (Kd.R_far (p := ⟨gb269, 1, none⟩) (Kd.R_far (p := ⟨gb269, 0, none⟩) (Kd.R_types HO267.out BK269.out (by decide)) (fun _ hk => hk.2) (.int .i64 t247)) (fun _ hk => hk.2) (.bool t248)) (fun _ hk => hk.2) (.int .i64 t249)) (fun _ hk => hk.2) (.bool t250)) (fun _ hk => hk.2) (.bool t251)) (fun _ hk => hk.2) (.bool t252)) (fun _ hk => hk.2) (.bool t253)) (fun _ hk => hk.2) (.int .i64 t254)) (fun _ hk => hk.2) (.int .i64 t255)) (fun _ hk => hk.2) (.slice Ao62 t256.length co62)) (fun _ hk => hk.2) (.slice Ao63 t259.length co63)) (fun _ hk => hk.2) (.slice Ao64 t262.length co64)) (fun _ hk => hk.2) (.slice Ao65 t265.length co65)) (fun _ h_ => h_.1)))); (case side16 => exact (Kd.R_reads' HO267.out).2.1); rintro e w67 ⟨rfl, hb⟩; have n0_ := Aside0.mk (Kd.R_below (by (with_reducible repeat (first | apply Kd.R_alloc | apply Kd.R_drewN | apply Kd.R_drew)); exact (Kd.R_mono (Kd.R_far (p := ⟨gb269, 12, none⟩) (Kd.R_far (p := ⟨gb269, 11, none⟩) (Kd.R_far (p := ⟨gb269, 10, none⟩) (Kd.R_far (p := ⟨gb269, 9, none⟩) (Kd.R_far (p := ⟨gb269, 8, none⟩) (Kd.R_far (p := ⟨gb269, 7, none⟩) (Kd.R_far (p := ⟨gb269, 6, none⟩) (Kd.R_far (p := ⟨gb269, 5, none⟩) (Kd.R_far (p := ⟨gb269, 4, none⟩) (Kd.R_far (p := ⟨gb269, 3, none⟩) (Kd.R_far (p := ⟨gb269, 2, none⟩) (Kd.R_far (p := ⟨gb269, 1, none⟩) (Kd.R_far (p := ⟨gb269, 0, none⟩) (Kd.R_types HO235.out BK269.out (by decide)) (fun _ hk => hk.2) (.int .i64 t247)) (fun _ hk => hk.2) (.bool t248)) (fun _ hk => hk.2) (.int .i64 t249)) (fun _ hk => hk.2) (.bool t250)) (fun _ hk => hk.2) (.bool t251)) (fun _ hk => hk.2) (.bool t252)) (fun _ hk => hk.2) (.bool t253)) (fun _ hk => hk.2) (.int .i64 t254)) (fun _ hk => hk.2) (.int .i64 t255)) (fun _ hk => hk.2) (.slice Ao62 t256.length co62)) (fun _ hk => hk.2) (.slice Ao63 t259.length co63)) (fun _ hk => hk.2) (.slice Ao64 t262.length co64)) (fun _ hk => hk.2) (.slice Ao65 t265.length co65)) (fun _ h_ => h_.1))) hb); have n1_ := Aside0.mk (Kd.R_below (by (with_reducible repeat (first | apply Kd.R_alloc | apply Kd.R_drewN | apply Kd.R_drew)); exact (Kd.R_mono (Kd.R_far (p := ⟨gb269, 12, none⟩) (Kd.R_far (p := ⟨gb269, 11, none⟩) (Kd.R_far (p := ⟨gb269, 10, none⟩) (Kd.R_far (p := ⟨gb269, 9, none⟩) (Kd.R_far (p := ⟨gb269, 8, none⟩) (Kd.R_far (p := ⟨gb269, 7, none⟩) (Kd.R_far (p := ⟨gb269, 6, none⟩) (Kd.R_far (p := ⟨gb269, 5, none⟩) (Kd.R_far (p := ⟨gb269, 4, none⟩) (Kd.R_far (p := ⟨gb269, 3, none⟩) (Kd.R_far (p := ⟨gb269, 2, none⟩) (Kd.R_far (p := ⟨gb269, 1, none⟩) (Kd.R_far (p := ⟨gb269, 0, none⟩) (Kd.R_types HO239.out BK269.out (by decide)) (fun _ hk => hk.2) (.int .i64 t247)) (fun _ hk => hk.2) (.bool t248)) (fun _ hk => hk.2) (.int .i64 t249)) (fun _ hk => hk.2) (.bool t250)) (fun _ hk => hk.2) (.bool t251)) (fun _ hk => hk.2) (.bool t252)) (fun _ hk => hk.2) (.bool t253)) (fun _ hk => hk.2) (.int .i64 t254)) (fun _ hk => hk.2) (.int .i64 t255)) (fun _ hk => hk.2) (.slice Ao62 t256.length co62)) (fun _ hk => hk.2) (.slice Ao63 t259.length co63)) (fun _ hk => hk.2) (.slice Ao64 t262.length co64)) (fun _ hk => hk.2) (.slice Ao65 t265.length co65)) (fun _ h_ => h_.1))) hb); have n2_ := Aside0.mk (Kd.R_below (by (with_reducible repeat (first | apply Kd.R_alloc | apply Kd.R_drewN | apply Kd.R_drew)); exact (Kd.R_mono (Kd.R_far (p := ⟨gb269, 12, none⟩) (Kd.R_far (p := ⟨gb269, 11, none⟩) (Kd.R_far (p := ⟨gb269, 10, none⟩) (Kd.R_far (p := ⟨gb269, 9, none⟩) (Kd.R_far (p := ⟨gb269, 8, none⟩) (Kd.R_far (p := ⟨gb269, 7, none⟩) (Kd.R_far (p := ⟨gb269, 6, none⟩) (Kd.R_far (p := ⟨gb269, 5, none⟩) (Kd.R_far (p := ⟨gb269, 4, none⟩) (Kd.R_far (p := ⟨gb269, 3, none⟩) (Kd.R_far (p := ⟨gb269, 2, none⟩) (Kd.R_far (p := ⟨gb269, 1, none⟩) (Kd.R_far (p := ⟨gb269, 0, none⟩) (Kd.R_types HO242.out BK269.out (by decide)) (fun _ hk => hk.2) (.int .i64 t247)) (fun _ hk => hk.2) (.bool t248)) (fun _ hk => hk.2) (.int .i64 t249)) (fun _ hk => hk.2) (.bool t250)) (fun _ hk => hk.2) (.bool t251)) (fun _ hk => hk.2) (.bool t252)) (fun _ hk => hk.2) (.bool t253)) (fun _ hk => hk.2) (.int .i64 t254)) (fun _ hk => hk.2) (.int .i64 t255)) (fun _ hk => hk.2) (.slice Ao62 t256.length co62)) (fun _ hk => hk.2) (.slice Ao63 t259.length co63)) (fun _ hk => hk.2) (.slice Ao64 t262.length co64)) (fun _ hk => hk.2) (.slice Ao65 t265.length co65)) (fun _ h_ => h_.1))) hb); have n3_ := Aside0.mk (Kd.R_below (by (with_reducible repeat (first | apply Kd.R_alloc | apply Kd.R_drewN | apply Kd.R_drew)); exact (Kd.R_mono (Kd.R_far (p := ⟨gb269, 12, none⟩) (Kd.R_far (p := ⟨gb269, 11, none⟩) (Kd.R_far (p := ⟨gb269, 10, none⟩) (Kd.R_far (p := ⟨gb269, 9, none⟩) (Kd.R_far (p := ⟨gb269, 8, none⟩) (Kd.R_far (p := ⟨gb269, 7, none⟩) (Kd.R_far (p := ⟨gb269, 6, none⟩) (Kd.R_far (p := ⟨gb269, 5, none⟩) (Kd.R_far (p := ⟨gb269, 4, none⟩) (Kd.R_far (p := ⟨gb269, 3, none⟩) (Kd.R_far (p := ⟨gb269, 2, none⟩) (Kd.R_far (p := ⟨gb269, 1, none⟩) (Kd.R_far (p := ⟨gb269, 0, none⟩) (Kd.R_types HO258.out BK269.out (by decide)) (fun _ hk => hk.2) (.int .i64 t247)) (fun _ hk => hk.2) (.bool t248)) (fun _ hk => hk.2) (.int .i64 t249)) (fun _ hk => hk.2) (.bool t250)) (fun _ hk => hk.2) (.bool t251)) (fun _ hk => hk.2) (.bool t252)) (fun _ hk => hk.2) (.bool t253)) (fun _ hk => hk.2) (.int .i64 t254)) (fun _ hk => hk.2) (.int .i64 t255)) (fun _ hk => hk.2) (.slice Ao62 t256.length co62)) (fun _ hk => hk.2) (.slice Ao63 t259.length co63)) (fun _ hk => hk.2) (.slice Ao64 t262.length co64)) (fun _ hk => hk.2) (.slice Ao65 t265.length co65)) (fun _ h_ => h_.1))) hb); have n4_ := Aside0.mk (Kd.R_below (by (with_reducible repeat (first | apply Kd.R_alloc | apply Kd.R_drewN | apply Kd.R_drew)); exact (Kd.R_mono (Kd.R_far (p := ⟨gb269, 12, none⟩) (Kd.R_far (p := ⟨gb269, 11, none⟩) (Kd.R_far (p := ⟨gb269, 10, none⟩) (Kd.R_far (p := ⟨gb269, 9, none⟩) (Kd.R_far (p := ⟨gb269, 8, none⟩) (Kd.R_far (p := ⟨gb269, 7, none⟩) (Kd.R_far (p := ⟨gb269, 6, none⟩) (Kd.R_far (p := ⟨gb269, 5, none⟩) (Kd.R_far (p := ⟨gb269, 4, none⟩) (Kd.R_far (p := ⟨gb269, 3, none⟩) (Kd.R_far (p := ⟨gb269, 2, none⟩) (Kd.R_far (p := ⟨gb269, 1, none⟩) (Kd.R_far (p := ⟨gb269, 0, none⟩) (Kd.R_types HO261.out BK269.out (by decide)) (fun _ hk => hk.2) (.int .i64 t247)) (fun _ hk => hk.2) (.bool t248)) (fun _ hk => hk.2) (.int .i64 t249)) (fun _ hk => hk.2) (.bool t250)) (fun _ hk => hk.2) (.bool t251)) (fun _ hk => hk.2) (.bool t252)) (fun _ hk => hk.2) (.bool t253)) (fun _ hk => hk.2) (.int .i64 t254)) (fun _ hk => hk.2) (.int .i64 t255)) (fun _ hk => hk.2) (.slice Ao62 t256.length co62)) (fun _ hk => hk.2) (.slice Ao63 t259.length co63)) (fun _ hk => hk.2) (.slice Ao64 t262.length co64)) (fun _ hk => hk.2) (.slice Ao65 t265.length co65)) (fun _ h_ => h_.1))) hb); have n5_ := Aside0.mk (Kd.R_below (by (with_reducible repeat (first | apply Kd.R_alloc | apply Kd.R_drewN | apply Kd.R_drew)); exact (Kd.R_mono (Kd.R_far (p := ⟨gb269, 12, none⟩) (Kd.R_far (p := ⟨gb269, 11, none⟩) (Kd.R_far (p := ⟨gb269, 10, none⟩) (Kd.R_far (p := ⟨gb269, 9, none⟩) (Kd.R_far (p := ⟨gb269, 8, none⟩) (Kd.R_far (p := ⟨gb269, 7, none⟩) (Kd.R_far (p := ⟨gb269, 6, none⟩) (Kd.R_far (p := ⟨gb269, 5, none⟩) (Kd.R_far (p := ⟨gb269, 4, none⟩) (Kd.R_far (p := ⟨gb269, 3, none⟩) (Kd.R_far (p := ⟨gb269, 2, none⟩) (Kd.R_far (p := ⟨gb269, 1, none⟩) (Kd.R_far (p := ⟨gb269, 0, none⟩) (Kd.R_types HO264.out BK269.out (by decide)) (fun _ hk => hk.2) (.int .i64 t247)) (fun _ hk => hk.2) (.bool t248)) (fun _ hk => hk.2) (.int .i64 t249)) (fun _ hk => hk.2) (.bool t250)) (fun _ hk => hk.2) (.bool t251)) (fun _ hk => hk.2) (.bool t252)) (fun _ hk => hk.2) (.bool t253)) (fun _ hk => hk.2) (.int .i64 t254)) (fun _ hk => hk.2) (.int .i64 t255)) (fun _ hk => hk.2) (.slice Ao62 t256.length co62)) (fun _ hk => hk.2) (.slice Ao63 t259.length co63)) (fun _ hk => hk.2) (.slice Ao64 t262.length co64)) (fun _ hk => hk.2) (.slice Ao65 t265.length co65)) (fun _ h_ => h_.1))) hb); have n6_ := Aside0.mk (Kd.R_below (by (with_reducible repeat (first | apply Kd.R_alloc | apply Kd.R_drewN | apply Kd.R_drew)); exact (Kd.R_mono (Kd.R_far (p := ⟨gb269, 12, none⟩) (Kd.R_far (p := ⟨gb269, 11, none⟩) (Kd.R_far (p := ⟨gb269, 10, none⟩) (Kd.R_far (p := ⟨gb269, 9, none⟩) (Kd.R_far (p := ⟨gb269, 8, none⟩) (Kd.R_far (p := ⟨gb269, 7, none⟩) (Kd.R_far (p := ⟨gb269, 6, none⟩) (Kd.R_far (p := ⟨gb269, 5, none⟩) (Kd.R_far (p := ⟨gb269, 4, none⟩) (Kd.R_far (p := ⟨gb269, 3, none⟩) (Kd.R_far (p := ⟨gb269, 2, none⟩) (Kd.R_far (p := ⟨gb269, 1, none⟩) (Kd.R_far (p := ⟨gb269, 0, none⟩) (Kd.R_types HO267.out BK269.out (by decide)) (fun _ hk => hk.2) (.int .i64 t247)) (fun _ hk => hk.2) (.bool t248)) (fun _ hk => hk.2) (.int .i64 t249)) (fun _ hk => hk.2) (.bool t250)) (fun _ hk => hk.2) (.bool t251)) (fun _ hk => hk.2) (.bool t252)) (fun _ hk => hk.2) (.bool t253)) (fun _ hk => hk.2) (.int .i64 t254)) (fun _ hk => hk.2) (.int .i64 t255)) (fun _ hk => hk.2) (.slice Ao62 t256.length co62)) (fun _ hk => hk.2) (.slice Ao63 t259.length co63)) (fun _ hk => hk.2) (.slice Ao64 t262.length co64)) (fun _ hk => hk.2) (.slice Ao65 t265.length co65)) (fun _ h_ => h_.1))) hb); have n7_ := Aside0.mk (blk_below (g := gb236) (o := .cells #[.string a0, .int .i64 999, .int .i64 1, .int .i64 0, .string (strOfNums y233)] 53 (0, 0)) (by (with_reducible repeat (first | refine blk_drewN ?_ _ | refine blk_drew ?_ | refine blk_alloc ?_ _)); refine blk_far ?_ NB236_269.out _; (with_reducible repeat (first | refine blk_drewN ?_ _ | refine blk_drew ?_ | refine blk_alloc ?_ _)); refine blk_far ?_ NB236_269.out _; (with_reducible repeat (first | refine blk_drewN ?_ _ | refine blk_drew ?_ | refine blk_alloc ?_ _)); refine blk_far ?_ NB236_269.out _; (with_reducible repeat (first | refine blk_drewN ?_ _ | refine blk_drew ?_ | refine blk_alloc ?_ _)); refine blk_far ?_ NB236_269.out _; (with_reducible repeat (first | refine blk_drewN ?_ _ | refine blk_drew ?_ | refine blk_alloc ?_ _)); refine blk_far ?_ NB236_269.out _; (with_reducible repeat (first | refine blk_drewN ?_ _ | refine blk_drew ?_ | refine blk_alloc ?_ _)); refine blk_far ?_ NB236_269.out _; (with_reducible repeat (first | refine blk_drewN ?_ _ | refine blk_drew ?_ | refine blk_alloc ?_ _)); refine blk_far ?_ NB236_269.out _; (with_reducible repeat (first | refine blk_drewN ?_ _ | refine blk_drew ?_ | refine blk_alloc ?_ _)); refine blk_far ?_ NB236_269.out _; (with_reducible repeat (first | refine blk_drewN ?_ _ | refine blk_drew ?_ | refine blk_alloc ?_ _)); refine blk_far ?_ NB236_269.out _; (with_reducible repeat (first | refine blk_drewN ?_ _ | refine blk_drew ?_ | refine blk_alloc ?_ _)); refine blk_far ?_ NB236_269.out _; (with_reducible repeat (first | refine blk_drewN ?_ _ | refine blk_drew ?_ | refine blk_alloc ?_ _)); refine blk_far ?_ NB236_269.out _; (with_reducible repeat (first | refine blk_drewN ?_ _ | refine blk_drew ?_ | refine blk_alloc ?_ _)); refine blk_far ?_ NB236_269.out _; (with_reducible repeat (first | refine blk_drewN ?_ _ | refine blk_drew ?_ | refine blk_alloc ?_ _)); refine blk_far ?_ NB236_269.out _; (with_reducible repeat (first | refine blk_drewN ?_ _ | refine blk_drew ?_ | refine blk_alloc ?_ _)); exact BK236.out) hb); have n8_ := Aside0.mk (blk_below (g := gb243) (o := .cells #[.int .i64 0, .bool false, .int .i64 0, .bool false, .bool false, .bool false, .bool false, .int .i64 0, .int .i64 0, .slice Ao52 y237.length co52, .slice Ao51 t240.length co51, .slice none 0 0, .slice none 0 0] 27 (0, 0)) (by (with_reducible repeat (first | refine blk_drewN ?_ _ | refine blk_drew ?_ | refine blk_alloc ?_ _)); refine blk_far ?_ NB243_269.out _; (with_reducible repeat (first | refine blk_drewN ?_ _ | refine blk_drew ?_ | refine blk_alloc ?_ _)); refine blk_far ?_ NB243_269.out _; (with_reducible repeat (first | refine blk_drewN ?_ _ | refine blk_drew ?_ | refine blk_alloc ?_ _)); refine blk_far ?_ NB243_269.out _; (with_reducible repeat (first | refine blk_drewN ?_ _ | refine blk_drew ?_ | refine blk_alloc ?_ _)); refine blk_far ?_ NB243_269.out _; (with_reducible repeat (first | refine blk_drewN ?_ _ | refine blk_drew ?_ | refine blk_alloc ?_ _)); refine blk_far ?_ NB243_269.out _; (with_reducible repeat (first | refine blk_drewN ?_ _ | refine blk_drew ?_ | refine blk_alloc ?_ _)); refine blk_far ?_ NB243_269.out _; (with_reducible repeat (first | refine blk_drewN ?_ _ | refine blk_drew ?_ | refine blk_alloc ?_ _)); refine blk_far ?_ NB243_269.out _; (with_reducible repeat (first | refine blk_drewN ?_ _ | refine blk_drew ?_ | refine blk_alloc ?_ _)); refine blk_far ?_ NB243_269.out _; (with_reducible repeat (first | refine blk_drewN ?_ _ | refine blk_drew ?_ | refine blk_alloc ?_ _)); refine blk_far ?_ NB243_269.out _; (with_reducible repeat (first | refine blk_drewN ?_ _ | refine blk_drew ?_ | refine blk_alloc ?_ _)); refine blk_far ?_ NB243_269.out _; (with_reducible repeat (first | refine blk_drewN ?_ _ | refine blk_drew ?_ | refine blk_alloc ?_ _)); refine blk_far ?_ NB243_269.out _; (with_reducible repeat (first | refine blk_drewN ?_ _ | refine blk_drew ?_ | refine blk_alloc ?_ _)); refine blk_far ?_ NB243_269.out _; (with_reducible repeat (first | refine blk_drewN ?_ _ | refine blk_drew ?_ | refine blk_alloc ?_ _)); refine blk_far ?_ NB243_269.out _; (with_reducible repeat (first | refine blk_drewN ?_ _ | refine blk_drew ?_ | refine blk_alloc ?_ _)); exact BK243.out) hb); have n9_ := Aside0.mk (blk_below (g := gb269) (o := .cells #[.int .i64 t247, .bool t248, .int .i64 t249, .bool t250, .bool t251, .bool t252, .bool t253, .int .i64 t254, .int .i64 t255, .slice Ao62 t256.length co62, .slice Ao63 t259.length co63, .slice Ao64 t262.length co64, .slice Ao65 t265.length co65] 27 (0, 0)) (by (with_reducible repeat (first | refine blk_drewN ?_ _ | refine blk_drew ?_ | refine blk_alloc ?_ _)); refine blk_put (cs := #[.int .i64 t247, .bool t248, .int .i64 t249, .bool t250, .bool t251, .bool t252, .bool t253, .int .i64 t254, .int .i64 t255, .slice Ao62 t256.length co62, .slice Ao63 t259.length co63, .slice Ao64 t262.length co64, .slice none 0 0]) ?_ 12 _ rfl; (with_reducible repeat (first | refine blk_drewN ?_ _ | refine blk_drew ?_ | refine blk_alloc ?_ _)); refine blk_put (cs := #[.int .i64 t247, .bool t248, .int .i64 t249, .bool t250, .bool t251, .bool t252, .bool t253, .int .i64 t254, .int .i64 t255, .slice Ao62 t256.length co62, .slice Ao63 t259.length co63, .slice none 0 0, .slice none 0 0]) ?_ 11 _ rfl; (with_reducible repeat (first | refine blk_drewN ?_ _ | refine blk_drew ?_ | refine blk_alloc ?_ _)); refine blk_put (cs := #[.int .i64 t247, .bool t248, .int .i64 t249, .bool t250, .bool t251, .bool t252, .bool t253, .int .i64 t254, .int .i64 t255, .slice Ao62 t256.length co62, .slice none 0 0, .slice none 0 0, .slice none 0 0]) ?_ 10 _ rfl; (with_reducible repeat (first | refine blk_drewN ?_ _ | refine blk_drew ?_ | refine blk_alloc ?_ _)); refine blk_put (cs := #[.int .i64 t247, .bool t248, .int .i64 t249, .bool t250, .bool t251, .bool t252, .bool t253, .int .i64 t254, .int .i64 t255, .slice none 0 0, .slice none 0 0, .slice none 0 0, .slice none 0 0]) ?_ 9 _ rfl; (with_reducible repeat (first | refine blk_drewN ?_ _ | refine blk_drew ?_ | refine blk_alloc ?_ _)); refine blk_put (cs := #[.int .i64 t247, .bool t248, .int .i64 t249, .bool t250, .bool t251, .bool t252, .bool t253, .int .i64 t254, .int .i64 0, .slice none 0 0, .slice none 0 0, .slice none 0 0, .slice none 0 0]) ?_ 8 _ rfl; (with_reducible repeat (first | refine blk_drewN ?_ _ | refine blk_drew ?_ | refine blk_alloc ?_ _)); refine blk_put (cs := #[.int .i64 t247, .bool t248, .int .i64 t249, .bool t250, .bool t251, .bool t252, .bool t253, .int .i64 0, .int .i64 0, .slice none 0 0, .slice none 0 0, .slice none 0 0, .slice none 0 0]) ?_ 7 _ rfl; (with_reducible repeat (first | refine blk_drewN ?_ _ | refine blk_drew ?_ | refine blk_alloc ?_ _)); refine blk_put (cs := #[.int .i64 t247, .bool t248, .int .i64 t249, .bool t250, .bool t251, .bool t252, .bool false, .int .i64 0, .int .i64 0, .slice none 0 0, .slice none 0 0, .slice none 0 0, .slice none 0 0]) ?_ 6 _ rfl; (with_reducible repeat (first | refine blk_drewN ?_ _ | refine blk_drew ?_ | refine blk_alloc ?_ _)); refine blk_put (cs := #[.int .i64 t247, .bool t248, .int .i64 t249, .bool t250, .bool t251, .bool false, .bool false, .int .i64 0, .int .i64 0, .slice none 0 0, .slice none 0 0, .slice none 0 0, .slice none 0 0]) ?_ 5 _ rfl; (with_reducible repeat (first | refine blk_drewN ?_ _ | refine blk_drew ?_ | refine blk_alloc ?_ _)); refine blk_put (cs := #[.int .i64 t247, .bool t248, .int .i64 t249, .bool t250, .bool false, .bool false, .bool false, .int .i64 0, .int .i64 0, .slice none 0 0, .slice none 0 0, .slice none 0 0, .slice none 0 0]) ?_ 4 _ rfl; (with_reducible repeat (first | refine blk_drewN ?_ _ | refine blk_drew ?_ | refine blk_alloc ?_ _)); refine blk_put (cs := #[.int .i64 t247, .bool t248, .int .i64 t249, .bool false, .bool false, .bool false, .bool false, .int .i64 0, .int .i64 0, .slice none 0 0, .slice none 0 0, .slice none 0 0, .slice none 0 0]) ?_ 3 _ rfl; (with_reducible repeat (first | refine blk_drewN ?_ _ | refine blk_drew ?_ | refine blk_alloc ?_ _)); refine blk_put (cs := #[.int .i64 t247, .bool t248, .int .i64 0, .bool false, .bool false, .bool false, .bool false, .int .i64 0, .int .i64 0, .slice none 0 0, .slice none 0 0, .slice none 0 0, .slice none 0 0]) ?_ 2 _ rfl; (with_reducible repeat (first | refine blk_drewN ?_ _ | refine blk_drew ?_ | refine blk_alloc ?_ _)); refine blk_put (cs := #[.int .i64 t247, .bool false, .int .i64 0, .bool false, .bool false, .bool false, .bool false, .int .i64 0, .int .i64 0, .slice none 0 0, .slice none 0 0, .slice none 0 0, .slice none 0 0]) ?_ 1 _ rfl; (with_reducible repeat (first | refine blk_drewN ?_ _ | refine blk_drew ?_ | refine blk_alloc ?_ _)); refine blk_put (cs := #[.int .i64 0, .bool false, .int .i64 0, .bool false, .bool false, .bool false, .bool false, .int .i64 0, .int .i64 0, .slice none 0 0, .slice none 0 0, .slice none 0 0, .slice none 0 0]) ?_ 0 _ rfl; (with_reducible repeat (first | refine blk_drewN ?_ _ | refine blk_drew ?_ | refine blk_alloc ?_ _)); exact BK269.out) hb); have n10_ := Aside0.mk (below_step (by repeat (first | (with_reducible first | exact HB.out | apply below_alloc | apply pw_below_drewN | apply below_drew1 | refine below_set ?_ GE236.out | refine below_set ?_ GE243.out | refine below_set ?_ GE269.out) | exact HB.out)) hb); clear HO235; clear HO239; clear HO242; clear HO258; clear HO261; clear HO264; clear HO267; clear BK236; clear BK243; clear BK269; clear HB; have HO235 := n0_; have HO239 := n1_; have HO242 := n2_; have HO258 := n3_; have HO261 := n4_; have HO264 := n5_; have HO267 := n6_; have BK236 := n7_; have BK243 := n8_; have BK269 := n9_; have HB := n10_; clear n0_ n1_ n2_ n3_ n4_ n5_ n6_ n7_ n8_ n9_ n10_; (try clear hb); (try clear hb2); (try clear hk); (try clear hi)))
                      go_ret
                      exact ⟨by first | rfl | (simp [errW_none, errW_some] <;> rfl) | (simp [*, errW_none, errW_some] <;> rfl), by repeat (first | (with_reducible first | exact HB.out | apply below_alloc | apply pw_below_drewN | apply below_drew1 | refine below_set ?_ GE236.out | refine below_set ?_ GE243.out | refine below_set ?_ GE269.out) | exact HB.out)⟩
                    · rw [if_neg c40] at H
                      exact absurd H (by simp)
                  · rw [if_neg c38] at H
                    exact absurd H (by simp)
                · rw [if_neg c37] at H
                  exact absurd H (by simp)
            · rw [if_neg c14] at H
              exact absurd H (by simp)
          · rw [if_neg c13] at H
            exact absurd H (by simp)
  · replace c5 := Bool.eq_false_iff.mpr c5
    subst c5
    have H1 : (none) = some r := by rw [if_neg (show ¬ (false = true) by decide)] at H; exact H
    clear H
    have H := H1
    clear H1
    exact absurd H (by simp)

/-- THE ONE PURE STATEMENT of wimplelaw7_WireSizes: yours. -/
def wimplelaw7_WireSizes.Pure : Prop := ∀ (a0 : ByteArray) (a1 : Int) (a2 : Int), a0.size ≤ 140737488351232 → (Lit.int .i64 a1).wf = true → (Lit.int .i64 a2).wf = true → ∃ k, wimplelaw7_WireSizes.f k a0 a1 a2 = some true
theorem wimplelaw7_WireSizes.walk (P : wimplelaw7_WireSizes.Pure) (a0 : ByteArray) (a1 : Int) (a2 : Int) (w : World) (w0 : a0.size ≤ 140737488351232) (w1 : (Lit.int .i64 a1).wf = true) (w2 : (Lit.int .i64 a2).wf = true) :
    Calls Try.prog 14 #[.string a0, .int .i64 a1, .int .i64 a2] w fun e w' => e = .returned (.bool true) ∧ Below w.heap.size w w' := by
  obtain ⟨k, h⟩ := P a0 a1 a2 w0 w1 w2
  refine (wimplelaw7_WireSizes.calls k a0 a1 a2 true w h).mono ?_
  rintro e w' ⟨rfl, hd⟩
  exact ⟨rfl, hd⟩

end Go.Proofs.Ytjklgdpffmaamaa.PWz

namespace Go.Proofs.Ytjklgdpffmaamaa.CompS
open Go.RowKit Go.Proofs.Ytjklgdpffmaamaa.PCm Go.Proofs.YtjklgdpffmaamaaW.PrintWords Go.Proofs.Ytjklgdpffmaamaa.Pu
set_option linter.unusedVariables false
theorem f_at {s : ByteArray} {i : Nat} {r : ByteArray × Int × Int} (h : Ev (fun k => comp_Name.l0 k s (i : Int) [] (i : Int) (-1)) r) : Ev (fun k => comp_Name.f k s (i : Int)) r := Ev.neg (by omega) h
theorem l_go {s : ByteArray} {i : Int} {out : List Int} {bg bh b : Int} {r : ByteArray × Int × Int} (h0 : 0 ≤ i) (h : i < (s.size : Int)) (ho : out.length < 255) (hb : bt s i = b) (hz : b ≠ 0)
    (h1 : b ≤ 63 → Ev (fun k => comp_Name.j2 k s i out bg bh b (decide (b < wrap64 ((s.size : Int) - i)))) r) (h2 : 63 < b → Ev (fun k => comp_Name.j2 k s i out bg bh b false) r) : Ev (fun k => comp_Name.l0 k s i out bg bh) r := by
  have hr := bt_range s i
  rw [hb] at hr
  refine Ev.step (fun k => by rw [comp_Name.l0]) (Ev.pos h ?_)
  rw [decide_eq_true (show (out.length : Int) < 255 by omega)]
  refine Ev.step (fun k => by rw [comp_Name.j1]) (Ev.pos rfl (Ev.pos h0 (Ev.pos h ?_)))
  rw [hb, w64 (x := b) (by omega) (by omega)]
  refine Ev.neg hz ?_
  by_cases hc : b ≤ 63
  · exact Ev.pos hc (h1 hc)
  · exact Ev.neg hc (h2 (by omega))
theorem l_lab {s : ByteArray} {i : Int} {out : List Int} {bg bh b : Int} {r : ByteArray × Int × Int} (hs : s.size ≤ 1000000) (h0 : 0 ≤ i) (ho : out.length < 255) (hb : bt s i = b) (hz : b ≠ 0) (h63 : b ≤ 63) (hf : b < (s.size : Int) - i)
    (h : Ev (fun k => comp_Name.l0 k s (i + 1 + b) (out ++ bytesOf (s.extract i.toNat (i + 1 + b).toNat)) bg bh) r) : Ev (fun k => comp_Name.l0 k s i out bg bh) r := by
  have hr := bt_range s i
  rw [hb] at hr
  refine l_go h0 (by omega) ho hb hz (fun _ => ?_) (fun h => by omega)
  rw [w64 (x := (s.size : Int) - i) (by omega) (by omega), decide_eq_true hf]
  refine Ev.step (fun k => by rw [comp_Name.j2]) (Ev.pos rfl ?_)
  rw [w64 (x := i + 1) (by omega) (by omega), w64 (x := i + 1 + b) (by omega) (by omega), w64 (x := 1 + b) (by omega) (by omega), w64 (x := i + (1 + b)) (by omega) (by omega), show i + (1 + b) = i + 1 + b by omega]
  refine Ev.pos (by omega) (Ev.pos (by omega) (Ev.pos (by omega) (Ev.pos ?_ h)))
  rw [ByteArray.size_extract]; omega
/-- Where a pointer leads. -/
theorem to_eq {b c : Int} (hb : 192 ≤ b) (hb2 : b ≤ 255) (hc : 0 ≤ c) (hc2 : c ≤ 255) : Go.bits .or .i64 (wrap64 ((Go.bits .and .i64 b 63) * 256)) (wrap64 c) = (b - 192) * 256 + c := by
  rw [and_63, w64 (x := c) (by omega) (by omega), show b % 64 = b - 192 by omega, w64 (by omega) (by omega), or_shl8 _ _ (by omega) (by omega) hc hc2]
end Go.Proofs.Ytjklgdpffmaamaa.CompS

namespace Go.Proofs.Ytjklgdpffmaamaa.Wr
open Go.RowKit Go.PlainAid Go.Proofs.Ytjklgdpffmaamaa.Base Go.Proofs.Ytjklgdpffmaamaa.Oct Go.Proofs.Ytjklgdpffmaamaa.Nm
set_option linter.unusedVariables false
/-! ### Bytes -/
theorem ext_list (s : ByteArray) (i j : Nat) : (s.extract i j).data.toList = (s.data.toList.take j).drop i := by
  rw [ByteArray.data_extract, Array.toList_extract, List.extract_eq_take_drop, List.drop_take]
theorem ext_of {a b : ByteArray} (h : a.data.toList = b.data.toList) : a = b := ByteArray.ext (Array.ext' h)
theorem app_list (a b : ByteArray) : (a ++ b).data.toList = a.data.toList ++ b.data.toList := by rw [ByteArray.data_append, Array.toList_append]
theorem ext_join (s : ByteArray) (i j k : Nat) (h1 : i ≤ j) (h2 : j ≤ k) : s.extract i j ++ s.extract j k = s.extract i k := by
  apply ext_of
  rw [app_list, ext_list, ext_list, ext_list]
  generalize s.data.toList = l
  rw [← List.take_append_drop (j - i) ((l.take k).drop i), List.drop_drop, List.take_drop, List.take_take, show min (i + (j - i)) k = j by omega, show i + (j - i) = j by omega]
theorem ext_left (a b : ByteArray) (i j : Nat) (h : j ≤ a.size) : (a ++ b).extract i j = a.extract i j := by
  apply ext_of
  rw [ext_list, ext_list, app_list, List.take_append_of_le_length (by rw [len_data]; exact h)]
theorem ext_right (a b : ByteArray) (k : Nat) : (a ++ b).extract a.size (a.size + k) = b.extract 0 k := by
  apply ext_of
  rw [ext_list, ext_list, app_list]
  rw [List.take_append, len_data, List.drop_append, List.length_take, len_data, List.drop_eq_nil_of_le (by rw [List.length_take, len_data]; omega), show min (a.size + k) a.size = a.size by omega, show a.size - a.size = 0 by omega, show a.size + k - a.size = k by omega]
  simp
theorem ext_root {s : ByteArray} {p : Nat} (h : p + 1 = s.size) (h0 : bt s p = 0) : s.extract p s.size = root := by
  have hb := bt_data s p
  rw [h0] at hb
  have hl := len_data s
  apply ext_of
  rw [ext_list, ← h, List.take_of_length_le (by omega), List.drop_eq_getElem_cons (by omega), List.drop_eq_nil_of_le (by omega)]
  rw [List.getD_eq_getElem?_getD, List.getElem?_eq_getElem (by omega)] at hb
  have : (s.data.toList[p]'(by omega)).toNat = 0 := by simpa using hb.symm
  have : s.data.toList[p]'(by omega) = 0 := UInt8.toNat_inj.1 this
  rw [this]
/-! ### Names that lie in bytes -/
inductive Lies (S : ByteArray) : Nat → ByteArray → Nat → Nat → Prop
  | fin (bg i : Nat) (h : i < S.size) (h0 : bt S i = 0) : Lies S bg root i (i + 1)
  | lab (bg i k : Nat) (r : ByteArray) (nx : Nat) (hb : bt S i = (k : Int)) (h0 : 1 ≤ k) (h1 : k ≤ 63) (h : i + 1 + k ≤ S.size) (ih : Lies S bg r (i + 1 + k) nx) : Lies S bg (S.extract i (i + 1 + k) ++ r) i nx
  | ptr (bg i b c tg : Nat) (r : ByteArray) (nx : Nat) (hb : bt S i = (b : Int)) (hc : bt S (i + 1) = (c : Int)) (h0 : 192 ≤ b) (ht : tg = (b - 192) * 256 + c) (hlt : tg < bg) (h : i + 1 < S.size) (ih : Lies S tg r tg nx) : Lies S bg r i (i + 2)
theorem Lies.more {S : ByteArray} (T : ByteArray) {bg : Nat} {r : ByteArray} {i nx : Nat} (h : Lies S bg r i nx) : Lies (S ++ T) bg r i nx := by
  have z : (S ++ T).size = S.size + T.size := ByteArray.size_append
  induction h with
  | fin bg i h h0 => exact .fin bg i (by omega) (by rw [bt_append_left _ _ _ h]; exact h0)
  | lab bg i k r nx hb h0 h1 h _ ih =>
    have := Lies.lab (S := S ++ T) bg i k r nx (by rw [bt_append_left _ _ _ (by omega)]; exact hb) h0 h1 (by omega) ih
    rwa [ext_left _ _ _ _ h] at this
  | ptr bg i b c tg r nx hb hc h0 ht hlt h _ ih =>
    exact .ptr bg i b c tg r nx (by rw [bt_append_left _ _ _ (by omega)]; exact hb) (by rw [bt_append_left _ _ _ (by omega)]; exact hc) h0 ht hlt (by omega) ih
theorem Lies.wide {S : ByteArray} {bg bg' : Nat} {r : ByteArray} {i nx : Nat} (h : Lies S bg r i nx) (hb : bg ≤ bg') : Lies S bg' r i nx := by
  induction h generalizing bg' with
  | fin bg i h h0 => exact .fin bg' i h h0
  | lab bg i k r nx hb' h0 h1 h _ ih => exact .lab bg' i k r nx hb' h0 h1 h (ih hb)
  | ptr bg i b c tg r nx hb' hc h0 ht hlt h ih _ => exact .ptr bg' i b c tg r nx hb' hc h0 ht (by omega) h ih
theorem Lies.lt {S : ByteArray} {bg : Nat} {r : ByteArray} {i nx : Nat} (h : Lies S bg r i nx) : i < S.size := by
  cases h <;> omega
theorem Lies.pos {S : ByteArray} {bg : Nat} {r : ByteArray} {i nx : Nat} (h : Lies S bg r i nx) : 1 ≤ r.size := by
  induction h with
  | fin => decide
  | lab bg i k r nx _ _ _ _ _ ih => rw [ByteArray.size_append]; omega
  | ptr _ _ _ _ _ _ _ _ _ _ _ _ _ _ ih => exact ih
/-! ### What lies is read -/
section
open Go.Proofs.Ytjklgdpffmaamaa.PCm Go.Proofs.Ytjklgdpffmaamaa.CompS Go.Proofs.Ytjklgdpffmaamaa.Pu
open Go.Proofs.YtjklgdpffmaamaaW.PrintWords (bytesOf bytesOf_length Ev)
theorem bt_is (s : ByteArray) (i : Nat) : Go.Proofs.YtjklgdpffmaamaaW.PrintWords.bt s (i : Int) = bt s i := by
  rw [bt_bytes, bt_data, List.getD_eq_getElem?_getD, List.getD_eq_getElem?_getD, bytesOf, List.getElem?_map]
  cases s.data.toList[i]? <;> rfl
theorem Lies.read {S : ByteArray} (hS : S.size ≤ 1000000) {bg : Nat} {r : ByteArray} {i nx : Nat} (h : Lies S bg r i nx) : ∀ (out : List Int) (bh : Int), out.length + r.size ≤ 255 →
    Ev (fun k => comp_Name.l0 k S (i : Int) out (bg : Int) bh) (strOfNums (out ++ bytesOf r), (if bh < 0 then (nx : Int) else bh), 0) := by
  induction h with
  | fin bg i h h0 =>
    intro out bh ho
    have z : root.size = 1 := rfl
    have hb := bt_is S i
    rw [h0] at hb
    refine Ev.step (fun k => by rw [comp_Name.l0]) (Ev.pos (by omega) ?_)
    rw [decide_eq_true (show (out.length : Int) < 255 by omega)]
    refine Ev.step (fun k => by rw [comp_Name.j1]) (Ev.pos rfl (Ev.pos (by omega) (Ev.pos (by omega) ?_)))
    rw [hb]
    refine Ev.pos (Pu.w64 (by decide) (by decide)) ?_
    rw [show bytesOf root = [0] by decide +kernel]
    by_cases hbh : bh < 0
    · refine Ev.pos hbh (Ev.pos (by omega) ?_)
      rw [if_pos hbh, Pu.w64 (x := (i : Int) + 1) (by omega) (by omega)]
      exact Ev.some _ fun _ => rfl
    · refine Ev.neg hbh (Ev.pos (by omega) ?_)
      rw [if_neg hbh]
      exact Ev.some _ fun _ => rfl
  | lab bg i k r nx hb h0 h1 h hr ih =>
    intro out bh ho
    have z : (S.extract i (i + 1 + k)).size = k + 1 := by rw [ByteArray.size_extract]; omega
    rw [ByteArray.size_append, z] at ho
    have hp := hr.pos
    refine l_lab (b := (k : Int)) hS (by omega) (by omega) ((bt_is S i).trans hb) (by omega) (by omega) (by omega) ?_
    have e : ((i : Int) + 1 + (k : Int)) = ((i + 1 + k : Nat) : Int) := by omega
    rw [e]
    have := ih (out ++ bytesOf (S.extract i (i + 1 + k))) bh (by rw [List.length_append, bytesOf_length, z]; omega)
    rw [bytesOf_append, ← List.append_assoc]
    exact this
  | ptr bg i b c tg r nx hb hc h0 ht hlt h hr ih =>
    intro out bh ho
    have hp := hr.pos
    have hb' := (bt_is S i).trans hb
    have hc' := (bt_is S (i + 1)).trans hc
    have r1 := Go.Proofs.YtjklgdpffmaamaaW.PrintWords.bt_range S (i : Int)
    have r2 := Go.Proofs.YtjklgdpffmaamaaW.PrintWords.bt_range S ((i : Int) + 1)
    have e1 : ((i + 1 : Nat) : Int) = (i : Int) + 1 := by omega
    rw [e1] at hc'
    rw [hb'] at r1
    rw [hc'] at r2
    have hto : Go.bits .or .i64 (wrap64 ((Go.bits .and .i64 (b : Int) 63) * 256)) (wrap64 (c : Int)) = (tg : Int) := by
      rw [to_eq (by omega) r1.2 r2.1 r2.2, ht]; omega
    refine l_go (b := (b : Int)) (by omega) (by omega) (by omega) hb' (by omega) (fun h => by omega) (fun _ => ?_)
    refine Ev.step (fun k => by rw [comp_Name.j2]) (Ev.neg (by simp) (Ev.pos (by omega) ?_))
    rw [Pu.w64 (x := (i : Int) + 1) (by omega) (by omega), decide_eq_true (show (i : Int) + 1 < (S.size : Int) by omega)]
    refine Ev.step (fun k => by rw [comp_Name.j3]) (Ev.pos rfl ?_)
    rw [Pu.w64 (x := (i : Int) + 1) (by omega) (by omega)]
    refine Ev.pos (by omega) (Ev.pos (by omega) (Ev.neg ?_ ?_))
    · rw [hc', hto]; omega
    · rw [hc', hto]
      by_cases hbh : bh < 0
      · refine Ev.pos hbh ?_
        rw [if_pos hbh, Pu.w64 (x := (i : Int) + 2) (by omega) (by omega)]
        have := ih out ((i : Int) + 2) ho
        rw [if_neg (by omega)] at this
        exact this
      · refine Ev.neg hbh ?_
        rw [if_neg hbh]
        have := ih out bh ho
        rw [if_neg hbh] at this
        exact this
theorem Lies.name {S : ByteArray} (hS : S.size ≤ 1000000) {r : ByteArray} {i nx : Nat} (h : Lies S i r i nx) (hr : r.size ≤ 255) : Ev (fun k => comp_Name.f k S (i : Int)) (r, (nx : Int), 0) := by
  have := h.read hS [] (-1) (by simpa using hr)
  rw [List.nil_append, nums_bytesOf, if_pos (by decide)] at this
  exact f_at this
end
/-! ### What a writer puts behind lies -/
/-- All that is kept lies where it is said to. -/
def Known (S : ByteArray) (m : ByteArray → Option Int) : Prop := ∀ r t, m r = some t → ∃ i nx : Nat, t = (i : Int) ∧ i < 16384 ∧ Lies S i r i nx
/-- The rest of what is put behind, from a place on. -/
def tailN (s : ByteArray) (p : Nat) : Option (Nat × Nat × Int) → ByteArray
  | some (_, q, t) => s.extract p q ++ p16 (Go.bits .or .i64 49152 t)
  | none => s.extract p s.size
def wroteF (i n : Nat) : Option (Nat × Nat × Int) → Nat
  | some (j, _, _) => j - i
  | none => n
theorem p16_ptr (t : Nat) (ht : t < 16384) : bt (p16 (Go.bits .or .i64 49152 (t : Int))) 0 = ((192 + t / 256 : Nat) : Int) ∧ bt (p16 (Go.bits .or .i64 49152 (t : Int))) 1 = ((t % 256 : Nat) : Int) := by
  have e : Go.bits .or .i64 49152 (t : Int) = 49152 + (t : Int) := by
    have := Pu.or_shl 14 (by decide) 3 (t : Int) (by decide) (by omega) (by omega) (by omega)
    simpa using this
  rw [e]
  unfold p16
  constructor
  · rw [bt_nums _ 0 ((49152 + (t : Int)) / 256 % 256) (by rfl) (by omega) (by omega)]; omega
  · rw [bt_nums _ 1 ((49152 + (t : Int)) % 256) (by rfl) (by omega) (by omega)]; omega
theorem find_ge (m : ByteArray → Option Int) (s : ByteArray) : ∀ (ps : List Nat) (i j p : Nat) (t : Int), findP m s ps i = some (j, p, t) → i ≤ j ∧ m (s.extract p s.size) = some t := by
  intro ps
  induction ps with
  | nil => intro i j p t h; cases h
  | cons a ps ih =>
    intro i j p t h
    rw [findP] at h
    cases hm : m (s.extract a s.size) with
    | none => rw [hm] at h; have := ih _ _ _ _ h; exact ⟨by omega, this.2⟩
    | some u =>
      rw [hm] at h
      injection h with h
      injection h with h1 h
      injection h with h2 h3
      subst h2; subst h3
      exact ⟨by omega, hm⟩
theorem placesAt_ge (s : ByteArray) : ∀ n i, s.size - i ≤ n → ∀ p ∈ placesAt s i, i ≤ p := by
  intro n
  induction n with
  | zero => intro i h p hp; rw [placesAt, if_neg (by omega)] at hp; cases hp
  | succ n ih =>
    intro i h p hp
    rw [placesAt] at hp
    by_cases hi : i < s.size
    · rw [if_pos hi] at hp
      rcases List.mem_cons.1 hp with rfl | hp
      · exact Nat.le_refl _
      · by_cases h0 : PlainAid.bt s i = 0
        · rw [if_pos h0] at hp; cases hp
        · rw [if_neg h0] at hp
          by_cases h1 : 63 < PlainAid.bt s i
          · rw [if_pos h1] at hp; cases hp
          · rw [if_neg h1] at hp
            have := ih (i + 1 + (PlainAid.bt s i).toNat) (by omega) p hp
            omega
    · rw [if_neg hi] at hp; cases hp
theorem put_lies {S s : ByteArray} {m : ByteArray → Option Int} (hm : Known S m) (bg : Nat) (hbg : S.size ≤ bg) : ∀ (n p i : Nat), s.size - p ≤ n → nameAt s p = true → ∀ T : ByteArray, (∃ U, T = S ++ U) →
    (tailN s p (findP m s (placesAt s p).dropLast i)).size + p ≤ s.size ∧
    Lies (T ++ tailN s p (findP m s (placesAt s p).dropLast i)) bg (s.extract p s.size) T.size (T ++ tailN s p (findP m s (placesAt s p).dropLast i)).size ∧
    ∀ q ∈ (placesAt s p).dropLast.take (wroteF i (placesAt s p).dropLast.length (findP m s (placesAt s p).dropLast i)), Lies (T ++ tailN s p (findP m s (placesAt s p).dropLast i)) bg (s.extract q s.size) (T.size + (q - p)) (T ++ tailN s p (findP m s (placesAt s p).dropLast i)).size := by
  intro n
  induction n with
  | zero => intro p i h hn; rw [nameAt_out (by omega)] at hn; cases hn
  | succ n ih =>
    intro p i h hn T hT
    have hp : p < s.size := by
      by_cases h : p < s.size
      · exact h
      · rw [nameAt_out (by omega)] at hn; cases hn
    by_cases h0 : bt s p = 0
    · rw [nameAt_end hp h0] at hn
      have he : p + 1 = s.size := by simpa using hn
      have er := ext_root he h0
      rw [placesAt_end hp h0]
      show (s.extract p s.size).size + p ≤ s.size ∧ Lies (T ++ s.extract p s.size) bg (s.extract p s.size) T.size (T ++ s.extract p s.size).size ∧ _
      rw [er]
      have z : (T ++ root).size = T.size + 1 := by rw [ByteArray.size_append]; rfl
      refine ⟨by show 1 + p ≤ s.size; omega, ?_, fun q hq => by simp at hq⟩
      rw [z]
      exact .fin bg T.size (by omega) (by rw [bt_append_right _ _ _ (by omega), Nat.sub_self]; exact root_bt)
    · have h63 : bt s p ≤ 63 := by
        by_cases h1 : 63 < bt s p
        · rw [nameAt_bad hp h1] at hn; cases hn
        · omega
      rw [nameAt_next hp h0 h63] at hn
      obtain ⟨k, hk⟩ : ∃ k : Nat, bt s p = (k : Int) := ⟨(bt s p).toNat, by have := bt_nonneg s p; omega⟩
      have hk0 : 1 ≤ k := by omega
      rw [hk, Int.toNat_natCast] at hn
      have hq : p + 1 + k < s.size := by
        by_cases h : p + 1 + k < s.size
        · exact h
        · rw [nameAt_out (by omega)] at hn; cases hn
      have hd : (placesAt s p).dropLast = p :: (placesAt s (p + 1 + k)).dropLast := by
        rw [placesAt_next hp h0 h63, hk, Int.toNat_natCast, List.dropLast_cons_of_ne_nil (places_ne _ _ hn)]
      rw [hd]
      cases hmp : m (s.extract p s.size) with
      | some t =>
        obtain ⟨tg, nx, rfl, hto, hl⟩ := hm _ _ hmp
        have ef : findP m s (p :: (placesAt s (p + 1 + k)).dropLast) i = some (i, p, (tg : Int)) := by rw [findP, hmp]
        rw [ef]
        obtain ⟨U, rfl⟩ := hT
        have e : tailN s p (some (i, p, (tg : Int))) = p16 (Go.bits .or .i64 49152 (tg : Int)) := by
          show s.extract p p ++ _ = _
          simp
        rw [e]
        have z : (S ++ U ++ p16 (Go.bits .or .i64 49152 (tg : Int))).size = (S ++ U).size + 2 := by rw [ByteArray.size_append, p16_size]
        have zS : S.size ≤ (S ++ U).size := by rw [ByteArray.size_append]; omega
        have hpt := p16_ptr tg hto
        refine ⟨by rw [p16_size]; omega, ?_, fun q hq => by simp [wroteF] at hq⟩
        rw [z]
        refine .ptr bg (S ++ U).size (192 + tg / 256) (tg % 256) tg _ nx ?_ ?_ (by omega) (by omega) (by have := hl.lt; omega) (by omega) ?_
        · rw [bt_append_right _ _ _ (by omega), Nat.sub_self]; exact hpt.1
        · rw [bt_append_right _ _ _ (by omega), Nat.add_sub_cancel_left]; exact hpt.2
        · rw [ByteArray.append_assoc]; exact hl.more _
      | none =>
        have ef : findP m s (p :: (placesAt s (p + 1 + k)).dropLast) i = findP m s (placesAt s (p + 1 + k)).dropLast (i + 1) := by rw [findP, hmp]
        rw [ef]
        have IH := ih (p + 1 + k) (i + 1) (by omega) hn (T ++ s.extract p (p + 1 + k)) (by obtain ⟨U, rfl⟩ := hT; exact ⟨U ++ s.extract p (p + 1 + k), by rw [ByteArray.append_assoc]⟩)
        have hge : ∀ j q t, findP m s (placesAt s (p + 1 + k)).dropLast (i + 1) = some (j, q, t) → p + 1 + k ≤ q ∧ i + 1 ≤ j := fun j q t hf =>
          ⟨placesAt_ge s _ _ (Nat.le_refl _) q (List.dropLast_subset _ ((find_le m s _ _ _ _ _ hf).2)), (find_ge m s _ _ _ _ _ hf).1⟩
        generalize findP m s (placesAt s (p + 1 + k)).dropLast (i + 1) = f at IH hge ⊢
        have ze : (s.extract p (p + 1 + k)).size = 1 + k := by rw [ByteArray.size_extract]; omega
        have et : tailN s p f = s.extract p (p + 1 + k) ++ tailN s (p + 1 + k) f := by
          match f, hge with
          | none, _ => exact (ext_join s p (p + 1 + k) s.size (by omega) (by omega)).symm
          | some (j, q, t), hge =>
            show s.extract p q ++ _ = s.extract p (p + 1 + k) ++ (s.extract (p + 1 + k) q ++ _)
            rw [← ByteArray.append_assoc, ext_join s p (p + 1 + k) q (by omega) (hge j q t rfl).1]
        rw [et, ← ByteArray.append_assoc]
        have zT : (T ++ s.extract p (p + 1 + k)).size = T.size + 1 + k := by rw [ByteArray.size_append, ze]; omega
        obtain ⟨i1, i2, i3⟩ := IH
        rw [zT] at i2 i3
        have L : Lies (T ++ s.extract p (p + 1 + k) ++ tailN s (p + 1 + k) f) bg (s.extract p s.size) T.size (T ++ s.extract p (p + 1 + k) ++ tailN s (p + 1 + k) f).size := by
          have b0 : bt (T ++ s.extract p (p + 1 + k) ++ tailN s (p + 1 + k) f) T.size = (k : Int) := by
            rw [ByteArray.append_assoc, bt_append_right _ _ _ (by omega), Nat.sub_self, bt_append_left _ _ _ (by omega)]
            have : bt (s.extract p (p + 1 + k)) 0 = bt s p := by
              rw [bt_data, bt_data, ext_list, List.getD_eq_getElem?_getD, List.getD_eq_getElem?_getD, List.getElem?_drop, List.getElem?_take_of_lt (by omega), Nat.add_zero]
            rw [this, hk]
          have := Lies.lab bg T.size k (s.extract (p + 1 + k) s.size) _ b0 hk0 (by omega) (by rw [ByteArray.size_append, zT]; omega) i2
          rw [ByteArray.append_assoc, show T.size + 1 + k = T.size + (1 + k) by omega, ext_right T _ (1 + k), ext_left _ _ _ _ (by omega)] at this
          rw [show (s.extract p (p + 1 + k)).extract 0 (1 + k) = s.extract p (p + 1 + k) by have := ext0 (s.extract p (p + 1 + k)); rwa [ze] at this, ext_join s p (p + 1 + k) s.size (by omega) (by omega), ← ByteArray.append_assoc] at this
          exact this
        refine ⟨by rw [ByteArray.size_append, ze]; omega, L, fun q hq => ?_⟩
        have hw : wroteF i (p :: (placesAt s (p + 1 + k)).dropLast).length f = wroteF (i + 1) (placesAt s (p + 1 + k)).dropLast.length f + 1 := by
          match f, hge with
          | none, _ => rfl
          | some (j, q, t), hge => have := (hge j q t rfl).2; show j - i = j - (i + 1) + 1; omega
        rw [hw, List.take_succ_cons] at hq
        rcases List.mem_cons.1 hq with rfl | hq
        · rw [Nat.sub_self, Nat.add_zero]; exact L
        · have h3 := i3 q hq
          have := placesAt_ge s _ _ (Nat.le_refl _) q (List.dropLast_subset _ (List.mem_of_mem_take hq))
          rw [show T.size + (q - p) = T.size + 1 + k + (q - (p + 1 + k)) by omega]
          exact h3
theorem putK_inv (s x : ByteArray) (at0 : Nat) (t : Int) : ∀ (ps : List Nat) (m : ByteArray → Option Int), putK m s at0 ps x = some t → m x = some t ∨ ∃ p ∈ ps, x = s.extract p s.size ∧ t = (at0 : Int) + p := by
  intro ps
  induction ps with
  | nil => intro m h; exact .inl h
  | cons p ps ih =>
    intro m h
    rcases ih _ h with h | ⟨q, hq, h⟩
    · replace h : (if x = s.extract p s.size then some ((at0 : Int) + p) else m x) = some t := h
      by_cases e : x = s.extract p s.size
      · rw [if_pos e] at h
        injection h with h
        exact .inr ⟨p, List.mem_cons_self .., e, h.symm⟩
      · rw [if_neg e] at h; exact .inl h
    · exact .inr ⟨q, List.mem_cons_of_mem _ hq, h⟩
/-- Behind a name that was put: it lies where the bytes ended, all that is kept lies; it is no longer than it is. -/
theorem put_known {S s : ByteArray} {m : ByteArray → Option Int} (hm : Known S m) (hs : nameB s = true) (hz : S.size + s.size < 16384) :
    (outN m s).size ≤ s.size ∧ Lies (S ++ outN m s) S.size s S.size (S ++ outN m s).size ∧ Known (S ++ outN m s) (putN m s S.size) := by
  obtain ⟨h1, h2, h3⟩ := name_first hs
  have eo : outN m s = tailN s 0 (findP m s (placesAt s 0).dropLast 0) := by
    unfold outN heads places
    cases findP m s (placesAt s 0).dropLast 0 with
    | none => show s = s.extract 0 s.size; rw [ext0]
    | some r => obtain ⟨i, p, t⟩ := r; rfl
  have ew : wroteN m s = wroteF 0 (placesAt s 0).dropLast.length (findP m s (placesAt s 0).dropLast 0) := by
    unfold wroteN heads places
    cases findP m s (placesAt s 0).dropLast 0 with
    | none => rfl
    | some r => obtain ⟨i, p, t⟩ := r; rfl
  have H := put_lies hm S.size (Nat.le_refl _) s.size 0 0 (by omega) h3 S ⟨⟨#[]⟩, by apply ext_of; rw [app_list]; simp⟩
  rw [← eo, ← ew, ext0] at H
  refine ⟨by have := H.1; omega, H.2.1, fun r t hr => ?_⟩
  rcases putK_inv s r S.size t _ _ hr with hr | ⟨p, hp, rfl, rfl⟩
  · obtain ⟨i, nx, e, hi, hl⟩ := hm r t hr
    exact ⟨i, nx, e, hi, hl.more _⟩
  · have hl := H.2.2 p hp
    have hps := placesAt_mem s _ 0 (Nat.le_refl _) p (List.dropLast_subset _ (List.mem_of_mem_take hp))
    rw [Nat.sub_zero] at hl
    exact ⟨S.size + p, _, by omega, by omega, hl.wide (by omega)⟩
end Go.Proofs.Ytjklgdpffmaamaa.Wr

namespace Go.Proofs.Ytjklgdpffmaamaa.Hd
open Go.RowKit Go.PlainAid Go.Proofs.Ytjklgdpffmaamaa.Base Go.Proofs.Ytjklgdpffmaamaa.Oct
set_option linter.unusedVariables false

def bi (b : Bool) : Int := bif b then 1 else 0
theorem bi_bd (b : Bool) : 0 ≤ bi b ∧ bi b ≤ 1 := by cases b <;> decide
theorem bi_inj (b : Bool) : (bi b == 1) = b := by cases b <;> rfl
theorem bw15 (b : Bool) : bitW b 15 = 32768 * bi b := by cases b <;> rfl
theorem bw10 (b : Bool) : bitW b 10 = 1024 * bi b := by cases b <;> rfl
theorem bw9 (b : Bool) : bitW b 9 = 512 * bi b := by cases b <;> rfl
theorem bw8 (b : Bool) : bitW b 8 = 256 * bi b := by cases b <;> rfl
theorem bw7 (b : Bool) : bitW b 7 = 128 * bi b := by cases b <;> rfl
theorem orj (i : Nat) (x y : Int) (hx : 0 ≤ x) (hm : x % 2 ^ i = 0) (hx1 : x < 9223372036854775808) (hy : 0 ≤ y) (hy1 : y < 2 ^ i) (hy2 : y < 9223372036854775808) : Go.bits .or .i64 x y = x + y :=
  bits_join .i64 63 (by decide) wraps_i64 i x y hx hm (by omega) hy hy1 (by omega)
def Head.sum (h : Head) : Int := 32768 * bi h.qr + 2048 * h.op + 1024 * bi h.aa + 512 * bi h.tc + 256 * bi h.rd + 128 * bi h.ra + 16 * h.z + h.rc
theorem flags_sum (h : Head) (a0 : 0 ≤ h.op) (a1 : h.op ≤ 15) (a2 : 0 ≤ h.z) (a3 : h.z ≤ 7) (a4 : 0 ≤ h.rc) (a5 : h.rc ≤ 15) : h.flagsN = h.sum := by
  have b0 := bi_bd h.qr; have b1 := bi_bd h.aa; have b2 := bi_bd h.tc; have b3 := bi_bd h.rd; have b4 := bi_bd h.ra
  unfold Head.flagsN Head.sum
  rw [bw15, bw10, bw9, bw8, bw7]
  rw [orj 15 (32768 * bi h.qr) (h.op * 2048) (by omega) (by omega) (by omega) (by omega) (by omega) (by omega)]
  rw [orj 11 _ (1024 * bi h.aa) (by omega) (by omega) (by omega) (by omega) (by omega) (by omega)]
  rw [orj 10 _ (512 * bi h.tc) (by omega) (by omega) (by omega) (by omega) (by omega) (by omega)]
  rw [orj 9 _ (256 * bi h.rd) (by omega) (by omega) (by omega) (by omega) (by omega) (by omega)]
  rw [orj 8 _ (128 * bi h.ra) (by omega) (by omega) (by omega) (by omega) (by omega) (by omega)]
  rw [orj 7 _ (h.z * 16) (by omega) (by omega) (by omega) (by omega) (by omega) (by omega)]
  rw [orj 4 _ h.rc (by omega) (by omega) (by omega) (by omega) (by omega) (by omega)]
  omega
theorem and15 (x : Int) : Go.bits .and .i64 x 15 = x % 16 := and_mask 4 (by decide) x
theorem and7 (x : Int) : Go.bits .and .i64 x 7 = x % 8 := and_mask 3 (by decide) x

/-! ### Bytes -/
theorem be2_left (s t : ByteArray) (i : Nat) (h : i + 2 ≤ s.size) : be2 (s ++ t) i = be2 s i := by
  unfold be2; rw [bt_append_left _ _ _ (by omega), bt_append_left _ _ _ (by omega)]
theorem be2_right (s t : ByteArray) (i : Nat) (h : s.size ≤ i) : be2 (s ++ t) i = be2 t (i - s.size) := by
  unfold be2; rw [bt_append_right _ _ _ (by omega), bt_append_right _ _ _ (by omega), show i + 1 - s.size = i - s.size + 1 by omega]
theorem be2_p16 (x : Int) (h0 : 0 ≤ x) (h1 : x ≤ 65535) : be2 (p16 x) 0 = x := by
  unfold be2 p16
  rw [bt_nums _ 0 (x / 256 % 256) rfl (by omega) (by omega), bt_nums _ 1 (x % 256) rfl (by omega) (by omega)]
  omega
theorem putS_size (h : Head) (a b c d : Int) : (h.putS a b c d).size = 12 := by
  simp [Head.putS, ByteArray.size_append, p16_size]
/-- Two bytes, then the rest. -/
theorem be2_at (s t : ByteArray) (x : Int) (i : Nat) (hs : s.size = i) (h0 : 0 ≤ x) (h1 : x ≤ 65535) : be2 (s ++ p16 x ++ t) i = x := by
  subst hs
  rw [be2_left _ _ _ (by rw [ByteArray.size_append, p16_size]; omega), be2_right _ _ _ (by omega), Nat.sub_self, be2_p16 x h0 h1]
theorem flagsW_sum (h : Head) (hk : h.ok) : h.flagsW = h.sum := by
  obtain ⟨_, k1, k2, k3⟩ := hk
  rw [flags_eq h k1.1 k1.2 k3.1 k3.2, flags_sum h k1.1 k1.2 k3.1 k3.2 k2.1 k2.2]
theorem sum_bd (h : Head) (hk : h.ok) : 0 ≤ h.sum ∧ h.sum ≤ 65535 := by
  obtain ⟨_, k1, k2, k3⟩ := hk
  have b0 := bi_bd h.qr; have b1 := bi_bd h.aa; have b2 := bi_bd h.tc; have b3 := bi_bd h.rd; have b4 := bi_bd h.ra
  unfold Head.sum; omega
theorem bitB_of (f k : Int) (p : Int) (b : Bool) (hp : bitB f k = (Go.bits .and .i64 (f / p) 1 == 1)) (h : f / p % 2 = bi b) : bitB f k = b := by
  rw [hp, and_1, h]; exact bi_inj b
theorem back (h : Head) (a b c d : Int) (t : ByteArray) (hm : mayB h a b c d = true) : gotH (h.putS a b c d ++ t) = h ∧ gotC (h.putS a b c d ++ t) 4 = a ∧ gotC (h.putS a b c d ++ t) 6 = b ∧ gotC (h.putS a b c d ++ t) 8 = c ∧ gotC (h.putS a b c d ++ t) 10 = d ∧ gotE (h.putS a b c d ++ t) = 0 := by
  obtain ⟨⟨h0, h1, h2, h3⟩, hk⟩ := of_decide_eq_true hm
  have hz : 12 ≤ (h.putS a b c d ++ t).size := by rw [ByteArray.size_append, putS_size]; omega
  have hf := flagsW_sum h hk
  have hb := sum_bd h hk
  rw [gotH_yes hz, gotC_yes hz, gotC_yes hz, gotC_yes hz, gotC_yes hz, gotE_yes hz]
  have e0 : be2 (h.putS a b c d ++ t) 0 = h.id := by
    unfold Head.putS
    rw [show p16 h.id ++ p16 h.flagsW ++ p16 a ++ p16 b ++ p16 c ++ p16 d ++ t = ByteArray.empty ++ p16 h.id ++ (p16 h.flagsW ++ p16 a ++ p16 b ++ p16 c ++ p16 d ++ t) by simp [ByteArray.append_assoc]]
    exact be2_at _ _ _ _ rfl hk.1.1 hk.1.2
  have e2 : be2 (h.putS a b c d ++ t) 2 = h.sum := by
    unfold Head.putS
    rw [show p16 h.id ++ p16 h.flagsW ++ p16 a ++ p16 b ++ p16 c ++ p16 d ++ t = p16 h.id ++ p16 h.flagsW ++ (p16 a ++ p16 b ++ p16 c ++ p16 d ++ t) by simp [ByteArray.append_assoc], hf]
    exact be2_at _ _ _ _ (p16_size _) hb.1 hb.2
  have e4 : be2 (h.putS a b c d ++ t) 4 = a := by
    unfold Head.putS
    rw [show p16 h.id ++ p16 h.flagsW ++ p16 a ++ p16 b ++ p16 c ++ p16 d ++ t = (p16 h.id ++ p16 h.flagsW) ++ p16 a ++ (p16 b ++ p16 c ++ p16 d ++ t) by simp [ByteArray.append_assoc]]
    exact be2_at _ _ _ _ (by simp [ByteArray.size_append, p16_size]) h0.1 h0.2
  have e6 : be2 (h.putS a b c d ++ t) 6 = b := by
    unfold Head.putS
    rw [show p16 h.id ++ p16 h.flagsW ++ p16 a ++ p16 b ++ p16 c ++ p16 d ++ t = (p16 h.id ++ p16 h.flagsW ++ p16 a) ++ p16 b ++ (p16 c ++ p16 d ++ t) by simp [ByteArray.append_assoc]]
    exact be2_at _ _ _ _ (by simp [ByteArray.size_append, p16_size]) h1.1 h1.2
  have e8 : be2 (h.putS a b c d ++ t) 8 = c := by
    unfold Head.putS
    rw [show p16 h.id ++ p16 h.flagsW ++ p16 a ++ p16 b ++ p16 c ++ p16 d ++ t = (p16 h.id ++ p16 h.flagsW ++ p16 a ++ p16 b) ++ p16 c ++ (p16 d ++ t) by simp [ByteArray.append_assoc]]
    exact be2_at _ _ _ _ (by simp [ByteArray.size_append, p16_size]) h2.1 h2.2
  have e10 : be2 (h.putS a b c d ++ t) 10 = d := by
    unfold Head.putS
    exact be2_at _ _ _ _ (by simp [ByteArray.size_append, p16_size]) h3.1 h3.2
  refine ⟨?_, e4, e6, e8, e10, rfl⟩
  obtain ⟨_, k1, k2, k3⟩ := hk
  have b0 := bi_bd h.qr; have b1 := bi_bd h.aa; have b2 := bi_bd h.tc; have b3 := bi_bd h.rd; have b4 := bi_bd h.ra
  unfold getH
  rw [e0, e2, and15, and15, and7]
  have s0 : h.sum = 32768 * bi h.qr + 2048 * h.op + 1024 * bi h.aa + 512 * bi h.tc + 256 * bi h.rd + 128 * bi h.ra + 16 * h.z + h.rc := rfl
  rw [bitB_of _ _ _ h.qr (bitB15 _) (by omega), bitB_of _ _ _ h.aa (bitB10 _) (by omega), bitB_of _ _ _ h.tc (bitB9 _) (by omega), bitB_of _ _ _ h.rd (bitB8 _) (by omega), bitB_of _ _ _ h.ra (bitB7 _) (by omega)]
  rw [show h.sum / 2048 % 16 = h.op by omega, show h.sum / 16 % 8 = h.z by omega, show h.sum % 16 = h.rc by omega]

/-! ### Any twelve bytes -/
end Go.Proofs.Ytjklgdpffmaamaa.Hd

namespace Go.Proofs.Ytjklgdpffmaamaa.Wm
open Go.RowKit Go.PlainAid Go.Proofs.Ytjklgdpffmaamaa.Base Go.Proofs.Ytjklgdpffmaamaa.Oct Go.Proofs.Ytjklgdpffmaamaa.Nm Go.Proofs.Ytjklgdpffmaamaa.Wr Go.Proofs.Ytjklgdpffmaamaa.PCm Go.Proofs.Ytjklgdpffmaamaa.CompS Go.Proofs.Ytjklgdpffmaamaa.Pu
open Go.Proofs.YtjklgdpffmaamaaW.PrintWords (Ev bytesOf bytesOf_length LeO)
set_option linter.unusedVariables false
/-! ### A name that lies uncompressed -/
theorem find_none (s : ByteArray) : ∀ (ps : List Nat) (i : Nat), findP (fun _ => none) s ps i = none
  | [], _ => rfl
  | p :: ps, i => by rw [findP]; exact find_none s ps (i + 1)
theorem outN_plain (s : ByteArray) : outN (fun _ => none) s = s := by
  unfold outN; rw [find_none]
theorem ext_cut {S d : ByteArray} {i : Nat} (h : i + d.size ≤ S.size) (he : S.extract i (i + d.size) = d) : S = S.extract 0 i ++ d ++ S.extract (i + d.size) S.size := by
  have e := ext_join S 0 i (i + d.size) (by omega) (by omega)
  have e2 := ext_join S 0 (i + d.size) S.size (by omega) h
  rw [he] at e
  rw [e, e2, ext0]
theorem lies_plain {S n : ByteArray} {i : Nat} (hn : nameB n = true) (h : i + n.size ≤ S.size) (hS : S.size ≤ 16000) (he : S.extract i (i + n.size) = n) : Lies S i n i (i + n.size) := by
  have hn2 := (name_first hn).2.1
  have z : (S.extract 0 i).size = i := by rw [ByteArray.size_extract]; omega
  have H := (put_known (S := S.extract 0 i) (s := n) (m := fun _ => none) (fun r t h => by cases h) hn (by omega)).2.1
  rw [outN_plain, ByteArray.size_append, z] at H
  have := H.more (S.extract (i + n.size) S.size)
  rw [← ext_cut h he] at this
  exact this
theorem names_1 {s nm : ByteArray} {i q : Int} (h : Ev (fun k => comp_Name.f k s i) (nm, q, 0)) (hs : nm.size ≤ 255) : Ev (fun k => comp_names.f k s i 1) (nm, q, 0) := by
  show Ev (fun k => comp_names.l0 k s i (⟨#[]⟩ : ByteArray) 1 0) _
  refine Ev.step (fun k => by rw [comp_names.l0]) (Ev.pos (by decide) (Ev.bind h ?_))
  refine Ev.pos rfl (Ev.pos (by show 0 + nm.size ≤ 9223372036854775807; omega) ?_)
  refine Ev.step (fun k => by rw [comp_names.l0]) (Ev.neg (by rw [Pu.w64 (by decide) (by decide)]; decide) (Ev.some _ fun _ => ?_))
  show some ((⟨#[]⟩ : ByteArray) ++ nm, q, (0 : Int)) = _
  rw [show (⟨#[]⟩ : ByteArray) ++ nm = nm from ByteArray.empty_append]
theorem names_2 {s nm nn : ByteArray} {i p q : Int} (h : Ev (fun k => comp_Name.f k s i) (nm, p, 0)) (h2 : Ev (fun k => comp_Name.f k s p) (nn, q, 0)) (hs : nm.size ≤ 255) (hs2 : nn.size ≤ 255) : Ev (fun k => comp_names.f k s i 2) (nm ++ nn, q, 0) := by
  show Ev (fun k => comp_names.l0 k s i (⟨#[]⟩ : ByteArray) 2 0) _
  refine Ev.step (fun k => by rw [comp_names.l0]) (Ev.pos (by decide) (Ev.bind h ?_))
  refine Ev.pos rfl (Ev.pos (by show 0 + nm.size ≤ 9223372036854775807; omega) ?_)
  have e : (⟨#[]⟩ : ByteArray) ++ nm = nm := ByteArray.empty_append
  refine Ev.step (fun k => by rw [comp_names.l0]) (Ev.pos (by rw [Pu.w64 (by decide) (by decide)]; decide) (Ev.bind h2 ?_))
  dsimp only
  rw [e]
  refine Ev.pos rfl (Ev.pos (by omega) ?_)
  exact Ev.step (fun k => by rw [comp_names.l0]) (Ev.neg (by rw [Pu.w64 (x := 0 + 1) (by decide) (by decide), Pu.w64 (by decide) (by decide)]; decide) (Ev.some _ fun _ => rfl))
/-! ### Data -/
theorem shape_0 {t : Int} (h2 : t ≠ 2) (h5 : t ≠ 5) (h12 : t ≠ 12) (h15 : t ≠ 15) (h6 : t ≠ 6) : Ev (fun k => comp_shape.f k t) (0, 0, 0) := by
  refine Ev.neg h2 (Ev.neg h5 (Ev.step (fun k => by rw [comp_shape.j0]) (Ev.neg (by simpa using h12) (Ev.neg h15 (Ev.neg h6 (Ev.now _))))))
theorem shape_1 {t : Int} (h : t = 2 ∨ t = 5 ∨ t = 12) : Ev (fun k => comp_shape.f k t) (0, 1, 0) := by
  rcases h with rfl | rfl | rfl <;> exact Ev.of (comp_shape.mono _) (k := 4) (by decide +kernel)
theorem shape_15 : Ev (fun k => comp_shape.f k 15) (2, 1, 0) := Ev.of (comp_shape.mono _) (k := 4) (by decide +kernel)
theorem shape_6 : Ev (fun k => comp_shape.f k 6) (0, 2, 20) := Ev.of (comp_shape.mono _) (k := 4) (by decide +kernel)
theorem may_eq (t : Int) (s : ByteArray) (h : s.size ≤ 9223372036854775000) : rdata_May.f t s = some (Rd.mayD t s) := by unfold rdata_May.f; rw [if_pos h]
theorem data_in {s : ByteArray} {i z t : Int} {r : ByteArray × Int} (hs : s.size ≤ 1000000) (h0 : 0 ≤ i) (h1 : 0 ≤ z) (h2 : i + z ≤ (s.size : Int)) (h : Ev (fun k => comp_Data.j0 k s i z t false) r) : Ev (fun k => comp_Data.f k s i z t) r := by
  refine Ev.neg (by omega) (Ev.neg (by omega) (Ev.neg (by omega) ?_))
  rw [Pu.w64 (x := (s.size : Int) - i) (by omega) (by omega), decide_eq_false (show ¬ z > (s.size : Int) - i by omega)]
  exact h
/-- Data of a type whose bytes are left as they are. -/
theorem data_plain {s : ByteArray} {i z : Nat} {t : Int} (hs : s.size ≤ 1000000) (h2 : i + z ≤ s.size) (hsh : Ev (fun k => comp_shape.f k t) (0, 0, 0)) (hm : Rd.mayD t (s.extract i (i + z)) = true) :
    Ev (fun k => comp_Data.f k s (i : Int) (z : Int) t) (s.extract i (i + z), 0) := by
  refine data_in hs (by omega) (by omega) (by omega) ?_
  refine Ev.step (fun k => by rw [comp_Data.j0]) (Ev.neg (by decide) ?_)
  rw [Pu.w64 (x := (i : Int) + (z : Int)) (by omega) (by omega)]
  refine Ev.pos (by omega) (Ev.pos (by omega) (Ev.pos (by omega) (Ev.bind hsh (Ev.neg (by decide) (Ev.call (may_eq _ _ ?_) ?_)))))
  · rw [ByteArray.size_extract]; omega
  rw [show ((i : Int) + (z : Int)).toNat = i + z by omega, Int.toNat_natCast, hm]
  exact Ev.pos rfl (Ev.some _ fun _ => rfl)
/-- Data with names in it. -/
theorem data_names {s ns : ByteArray} {i z a more q : Nat} {many t : Int} (hs : s.size ≤ 1000000) (hn : ns.size ≤ 600) (h2 : i + z ≤ s.size) (hsh : Ev (fun k => comp_shape.f k t) ((a : Int), many, (more : Int))) (hmn : 0 < many) (ham : a + more ≤ z)
    (hq : Ev (fun k => comp_names.f k s ((i + a : Nat) : Int) many) (ns, (q : Int), 0)) (hqz : q + more = i + z) (hm : Rd.mayD t (s.extract i (i + a) ++ ns ++ s.extract q (i + z)) = true) :
    Ev (fun k => comp_Data.f k s (i : Int) (z : Int) t) (s.extract i (i + a) ++ ns ++ s.extract q (i + z), 0) := by
  refine data_in hs (by omega) (by omega) (by omega) ?_
  refine Ev.step (fun k => by rw [comp_Data.j0]) (Ev.neg (by decide) ?_)
  rw [Pu.w64 (x := (i : Int) + (z : Int)) (by omega) (by omega)]
  refine Ev.pos (by omega) (Ev.pos (by omega) (Ev.pos (by omega) (Ev.bind hsh (Ev.pos (by show many > 0; omega) ?_))))
  dsimp only
  rw [Pu.w64 (x := (a : Int) + (more : Int)) (by omega) (by omega), Pu.w64 (x := (i : Int) + (a : Int)) (by omega) (by omega), show (i : Int) + (a : Int) = ((i + a : Nat) : Int) by omega]
  refine Ev.neg (by omega) (Ev.bind hq (Ev.pos rfl ?_))
  dsimp only
  rw [Pu.w64 (x := (i : Int) + (z : Int) - (more : Int)) (by omega) (by omega)]
  rw [show ((q : Int) != (i : Int) + (z : Int) - (more : Int)) = false by simp; omega]
  refine Ev.step (fun k => by rw [comp_Data.j1]) (Ev.neg (by decide) ?_)
  rw [Pu.w64 (x := (i : Int) + (a : Int)) (by omega) (by omega), show (i : Int) + (a : Int) = ((i + a : Nat) : Int) by omega, show (i : Int) + (z : Int) = ((i + z : Nat) : Int) by omega]
  simp only [Int.toNat_natCast]
  refine Ev.pos (by omega) (Ev.pos (by omega) (Ev.pos (by omega) (Ev.pos ?_ (Ev.pos (by omega) (Ev.pos (by omega) (Ev.pos (by omega) (Ev.pos ?_ (Ev.call (may_eq _ _ ?_) ?_))))))))
  · rw [ByteArray.size_extract]; omega
  · rw [ByteArray.size_append, ByteArray.size_extract, ByteArray.size_extract]; omega
  · rw [ByteArray.size_append, ByteArray.size_append, ByteArray.size_extract, ByteArray.size_extract]; omega
  rw [hm]
  exact Ev.pos rfl (Ev.some _ fun _ => rfl)
theorem name_plain {S n : ByteArray} {i : Nat} (hn : nameB n = true) (h : i + n.size ≤ S.size) (hS : S.size ≤ 16000) (he : S.extract i (i + n.size) = n) : Ev (fun k => comp_Name.f k S (i : Int)) (n, ((i + n.size : Nat) : Int), 0) :=
  (lies_plain hn h hS he).name (by omega) (name_first hn).2.1
theorem ext_ext (s : ByteArray) (i j a b : Nat) (h : i + b ≤ j) : (s.extract i j).extract a b = s.extract (i + a) (i + b) := by
  apply ext_of
  rw [ext_list, ext_list, ext_list]
  generalize s.data.toList = l
  rw [List.drop_take, List.drop_take, List.drop_take, List.drop_take, List.take_take, List.drop_drop, show min (b - a) (j - i - a) = i + b - (i + a) by omega]
theorem endN_name {s : ByteArray} {a : Nat} (h : 0 ≤ endN s a) : nameB (s.extract a (endN s a).toNat) = true := by
  unfold endN at h ⊢
  cases hz : zeroAt s a with
  | none => rw [hz] at h; dsimp only at h; exact absurd h (by decide)
  | some p =>
    rw [hz] at h
    dsimp only at h ⊢
    by_cases hb : nameB (s.extract a (p + 1)) = true
    · rw [if_pos hb, show ((p : Int) + 1).toNat = p + 1 by omega]; exact hb
    · rw [if_neg hb] at h; exact absurd h (by decide)
/-- Data that may be, and that lies uncompressed, is read. -/
theorem data_of {S d : ByteArray} {i : Nat} {t : Int} (hS : S.size ≤ 16000) (h : i + d.size ≤ S.size) (he : S.extract i (i + d.size) = d) (hm : Rd.mayD t d = true) : Ev (fun k => comp_Data.f k S (i : Int) (d.size : Int) t) (d, 0) := by
  have sub : ∀ a b, b ≤ d.size → S.extract (i + a) (i + b) = d.extract a b := fun a b hb => by rw [← ext_ext S i (i + d.size) a b (by omega), he]
  have hm0 := hm
  unfold Rd.mayD at hm
  by_cases c1 : t < 1
  · rw [if_pos c1] at hm; cases hm
  rw [if_neg c1] at hm
  by_cases c2 : 65535 < t
  · rw [if_pos c2] at hm; cases hm
  rw [if_neg c2] at hm
  by_cases c3 : 65535 < d.size
  · rw [if_pos c3] at hm; cases hm
  rw [if_neg c3] at hm
  by_cases k1 : t = 2 ∨ t = 5 ∨ t = 12
  · have hn : nameB d = true := by
      rcases k1 with rfl | rfl | rfl <;> simpa using hm
    have H := data_names (t := t) (s := S) (i := i) (z := d.size) (a := 0) (more := 0) (q := i + d.size) (by omega) (by have := (name_first hn).2.1; omega) h (shape_1 k1) (by decide) (by omega) (names_1 (name_plain hn h hS he) (name_first hn).2.1) (by omega)
    have e : S.extract i (i + 0) ++ d ++ S.extract (i + d.size) (i + d.size) = d := by simp
    rw [e] at H
    exact H hm0
  · by_cases k2 : t = 15
    · subst k2
      have hn : 2 ≤ d.size ∧ nameB (d.extract 2 d.size) = true := by simpa using hm
      have hz : (d.extract 2 d.size).size = d.size - 2 := by rw [ByteArray.size_extract]; omega
      have hb := (name_first hn.2).2.1
      have hp := name_plain (S := S) (i := i + 2) hn.2 (by omega) hS (by rw [hz, show i + 2 + (d.size - 2) = i + d.size by omega]; exact sub 2 d.size (Nat.le_refl _))
      rw [hz, show i + 2 + (d.size - 2) = i + d.size by omega] at hp
      have H := data_names (t := 15) (s := S) (i := i) (z := d.size) (a := 2) (more := 0) (q := i + d.size) (by omega) (by omega) h shape_15 (by decide) (by omega) (names_1 hp hb) (by omega)
      rw [show S.extract i (i + 2) = d.extract 0 2 from sub 0 2 hn.1, show S.extract (i + d.size) (i + d.size) = ⟨#[]⟩ by simp; rfl, ext_join d 0 2 d.size (by omega) hn.1, ext0, show d ++ (⟨#[]⟩ : ByteArray) = d from ByteArray.append_empty] at H
      exact H hm0
    · by_cases k3 : t = 6
      · subst k3
        have hn : Rd.soaB d = true := by simpa using hm
        unfold Rd.soaB at hn
        simp only [Bool.and_eq_true, decide_eq_true_eq] at hn
        obtain ⟨a0, a1, a2⟩ := hn
        obtain ⟨p, hp⟩ : ∃ p : Nat, endN d 0 = (p : Int) := ⟨(endN d 0).toNat, by omega⟩
        have n1 := endN_name a0
        have b1 := Rd.endN_bd a0
        rw [hp, Int.toNat_natCast] at a1 a2 n1
        rw [hp] at b1
        obtain ⟨q, hq⟩ : ∃ q : Nat, endN d p = (q : Int) := ⟨(endN d p).toNat, by omega⟩
        have n2 := endN_name a1
        have b2 := Rd.endN_bd a1
        rw [hq, Int.toNat_natCast] at n2
        rw [hq] at b2 a2
        have z1 : (d.extract 0 p).size = p := by rw [ByteArray.size_extract]; omega
        have z2 : (d.extract p q).size = q - p := by rw [ByteArray.size_extract]; omega
        have f1 := (name_first n1).2.1
        have f2 := (name_first n2).2.1
        have e1 := name_plain (S := S) (i := i) n1 (by omega) hS (by rw [z1]; exact sub 0 p (by omega))
        have e2 := name_plain (S := S) (i := i + p) n2 (by omega) hS (by rw [z2, show i + p + (q - p) = i + q by omega]; exact sub p q (by omega))
        rw [z1] at e1
        rw [z2, show i + p + (q - p) = i + q by omega] at e2
        have H := data_names (t := 6) (s := S) (i := i) (z := d.size) (a := 0) (more := 20) (q := i + q) (by omega) (by rw [ByteArray.size_append]; omega) h shape_6 (by decide) (by omega) (names_2 e1 e2 f1 f2) (by omega)
        rw [show S.extract i (i + 0) = ⟨#[]⟩ by simp; rfl, sub q d.size (Nat.le_refl _), show (⟨#[]⟩ : ByteArray) ++ (d.extract 0 p ++ d.extract p q) = d.extract 0 p ++ d.extract p q from ByteArray.empty_append, ext_join d 0 p q (by omega) (by omega), ext_join d 0 q d.size (by omega) (by omega), ext0] at H
        exact H hm0
      · have H := data_plain (t := t) (s := S) (i := i) (z := d.size) (by omega) h (shape_0 (fun e => k1 (.inl e)) (fun e => k1 (.inr (.inl e))) (fun e => k1 (.inr (.inr e))) k2 k3)
        rw [he] at H
        exact H hm0
/-! ### A question, a record -/
theorem num16_ok {s : ByteArray} {i : Nat} (h : i + 2 ≤ s.size) : numV ⟨(i : Int), false⟩ (u16V s (i : Int)) = (be2 s i, ⟨((i + 2 : Nat) : Int), false⟩) := by
  unfold numV u16V
  rw [if_pos (show 0 ≤ (i : Int) ∧ (i : Int) + 2 ≤ (s.size : Int) by omega), Int.toNat_natCast]
  simp
theorem num32_ok {s : ByteArray} {i : Nat} (h : i + 4 ≤ s.size) : numV ⟨(i : Int), false⟩ (u32V s (i : Int)) = (be4 s i, ⟨((i + 4 : Nat) : Int), false⟩) := by
  unfold numV u32V
  rw [if_pos (show 0 ≤ (i : Int) ∧ (i : Int) + 4 ≤ (s.size : Int) by omega), Int.toNat_natCast]
  simp
theorem quest_ev {S n : ByteArray} {i nx : Nat} (h : Ev (fun k => comp_Name.f k S (i : Int)) (n, (nx : Int), 0)) (hx : nx + 4 ≤ S.size) : Ev (fun k => questV k S ⟨(i : Int), false⟩) (⟨n, be2 S nx, be2 S (nx + 2)⟩, ⟨((nx + 4 : Nat) : Int), be2 S nx == 0⟩) := by
  unfold questV
  refine Ev.bind h ?_
  refine Ev.neg (by simp) (Ev.some _ fun _ => ?_)
  dsimp only
  rw [num16_ok (by omega)]
  dsimp only
  rw [num16_ok (i := nx + 2) (by omega)]
  simp
  omega
theorem rec_ev {S n d : ByteArray} {i nx z : Nat} (h : Ev (fun k => comp_Name.f k S (i : Int)) (n, (nx : Int), 0)) (ht : be2 S nx ≠ 0) (hS : S.size ≤ 16000) (hz : be2 S (nx + 8) = (z : Int)) (hx : nx + 10 + z ≤ S.size) (hd : Ev (fun k => comp_Data.f k S ((nx + 10 : Nat) : Int) (z : Int) (be2 S nx)) (d, 0)) :
    Ev (fun k => recV k S ⟨(i : Int), false⟩) (⟨n, be2 S nx, be2 S (nx + 2), be4 S (nx + 4), d⟩, ⟨((nx + 10 + z : Nat) : Int), false⟩) := by
  unfold recV
  have hq := quest_ev h (by omega)
  rw [show (be2 S nx == 0) = false by simpa using ht] at hq
  have e1 : recN1 S (⟨n, be2 S nx, be2 S (nx + 2)⟩, ⟨((nx + 4 : Nat) : Int), false⟩) = (be4 S (nx + 4), ⟨((nx + 4 + 4 : Nat) : Int), false⟩) := num32_ok (by omega)
  have e2 : recN2 S (⟨n, be2 S nx, be2 S (nx + 2)⟩, ⟨((nx + 4 : Nat) : Int), false⟩) = ((z : Int), ⟨((nx + 10 : Nat) : Int), false⟩) := by
    unfold recN2
    rw [e1]
    dsimp only
    rw [num16_ok (i := nx + 4 + 4) (by omega), hz]
  refine Ev.bind hq ?_
  simp only [e1, e2]
  refine Ev.bind hd ?_
  refine Ev.neg (by simp) (Ev.some _ fun _ => ?_)
  rw [Pu.w64 (by omega) (by omega)]
  congr 4
end Go.Proofs.Ytjklgdpffmaamaa.Wm

namespace Go.Proofs.Ytjklgdpffmaamaa.Wm
open Go.RowKit Go.PlainAid Go.Proofs.Ytjklgdpffmaamaa.Base Go.Proofs.Ytjklgdpffmaamaa.Oct Go.Proofs.Ytjklgdpffmaamaa.Nm Go.Proofs.Ytjklgdpffmaamaa.Wr Go.Proofs.Ytjklgdpffmaamaa.PCm Go.Proofs.Ytjklgdpffmaamaa.CompS Go.Proofs.Ytjklgdpffmaamaa.Pu
open Go.Proofs.YtjklgdpffmaamaaW.PrintWords (Ev bytesOf bytesOf_length LeO)
set_option linter.unusedVariables false
/-! ### The writer's state -/
theorem raw_ok {st : St} {s : ByteArray} (h : (rawSt st s).lg = false) : st.lg = false ∧ st.S.size + s.size ≤ 4096 ∧ rawSt st s = ⟨st.S ++ s, st.m, false⟩ := by
  unfold rawSt at h ⊢
  by_cases c : 4096 < st.S.size + s.size
  · rw [if_pos c] at h; cases h
  · rw [if_neg c] at h ⊢
    have h : st.lg = false := h
    exact ⟨h, by omega, by rw [h]⟩
theorem name_ok {st : St} {n : ByteArray} (h : (nameSt st n).lg = false) : nameB n = true ∧ st.lg = false ∧ st.S.size + (outN st.m n).size ≤ 4096 ∧ nameSt st n = ⟨st.S ++ outN st.m n, putN st.m n st.S.size, false⟩ := by
  unfold nameSt at h ⊢
  by_cases b : nameB n = true
  · rw [if_pos b] at h ⊢
    by_cases c : 4096 < st.S.size + (outN st.m n).size
    · rw [if_pos c] at h; cases h
    · rw [if_neg c] at h ⊢
      have h : st.lg = false := h
      exact ⟨b, h, by omega, by rw [h]⟩
  · rw [if_neg b] at h; cases h
/-- All is well with the writer: what it keeps lies where it says. -/
structure Good (st : St) : Prop where
  known : Known st.S st.m
  size : st.S.size ≤ 4096
  lg : st.lg = false
theorem known_more {S : ByteArray} {m : ByteArray → Option Int} (h : Known S m) (T : ByteArray) : Known (S ++ T) m := fun r t hr => by
  obtain ⟨i, nx, e, hi, hl⟩ := h r t hr
  exact ⟨i, nx, e, hi, hl.more T⟩
theorem Good.raw {st : St} (H : st.lg = false → Good st) {s : ByteArray} (h : (rawSt st s).lg = false) : Good (rawSt st s) := by
  obtain ⟨h1, h2, h3⟩ := raw_ok h
  rw [h3]
  exact ⟨known_more (H h1).known s, by show (st.S ++ s).size ≤ 4096; rw [ByteArray.size_append]; exact h2, rfl⟩
theorem name_size {n : ByteArray} (h : nameB n = true) : n.size ≤ 255 := (name_first h).2.1
theorem Good.name {st : St} (H : st.lg = false → Good st) {n : ByteArray} (h : (nameSt st n).lg = false) : Good (nameSt st n) := by
  obtain ⟨h0, h1, h2, h3⟩ := name_ok h
  have hn := name_size h0
  have hz := (H h1).size
  rw [h3]
  exact ⟨(put_known (H h1).known h0 (by omega)).2.2, by show (st.S ++ _).size ≤ 4096; rw [ByteArray.size_append]; exact h2, rfl⟩
/-! ### Numbers -/
theorem be2_mid (a b : ByteArray) (x : Int) (i : Nat) (hi : i = a.size) (h0 : 0 ≤ x) (h1 : x ≤ 65535) : be2 (a ++ p16 x ++ b) i = x := Hd.be2_at a b x i hi.symm h0 h1
theorem be4_left (s t : ByteArray) (i : Nat) (h : i + 4 ≤ s.size) : be4 (s ++ t) i = be4 s i := by
  unfold be4
  rw [bt_append_left _ _ _ (by omega), bt_append_left _ _ _ (by omega), bt_append_left _ _ _ (by omega), bt_append_left _ _ _ (by omega)]
theorem be4_right (s t : ByteArray) (i : Nat) (h : s.size ≤ i) : be4 (s ++ t) i = be4 t (i - s.size) := by
  unfold be4
  rw [bt_append_right _ _ _ h, bt_append_right _ _ _ (by omega), bt_append_right _ _ _ (by omega), bt_append_right _ _ _ (by omega)]
  rw [show i + 1 - s.size = i - s.size + 1 by omega, show i + 2 - s.size = i - s.size + 2 by omega, show i + 3 - s.size = i - s.size + 3 by omega]
theorem be4_p32 (x : Int) (h0 : 0 ≤ x) (h1 : x ≤ 4294967295) : be4 (p32 x) 0 = x := by
  unfold be4 p32
  rw [bt_nums _ 0 ((x / 16777216) % 256) rfl (by omega) (by omega), bt_nums _ 1 ((x / 65536) % 256) rfl (by omega) (by omega), bt_nums _ 2 ((x / 256) % 256) rfl (by omega) (by omega), bt_nums _ 3 (x % 256) rfl (by omega) (by omega)]
  omega
theorem be4_mid (a b : ByteArray) (x : Int) (i : Nat) (hi : i = a.size) (h0 : 0 ≤ x) (h1 : x ≤ 4294967295) : be4 (a ++ p32 x ++ b) i = x := by
  subst hi
  rw [ByteArray.append_assoc, be4_right _ _ _ (Nat.le_refl _), Nat.sub_self, be4_left _ _ _ (by rw [p32_size]; omega), be4_p32 x h0 h1]
theorem inB_iff {x lo hi : Int} : inB x lo hi = true ↔ lo ≤ x ∧ x ≤ hi := by unfold inB; simp
/-! ### A question -/
theorem qSt_ok {st : St} {n : ByteArray} {t c : Int} (h : (qSt st n t c).lg = false) : nameB n = true ∧ st.lg = false ∧ st.S.size + (outN st.m n).size + 4 ≤ 4096 ∧ qSt st n t c = ⟨st.S ++ outN st.m n ++ (p16 t ++ p16 c), putN st.m n st.S.size, false⟩ := by
  unfold qSt at h ⊢
  obtain ⟨h1, h2, h3⟩ := raw_ok h
  obtain ⟨k0, k1, k2, k3⟩ := name_ok h1
  rw [k3] at h2 h3 ⊢
  have z : (p16 t ++ p16 c).size = 4 := by rw [ByteArray.size_append, p16_size, p16_size]
  have h2 : (st.S ++ outN st.m n).size + (p16 t ++ p16 c).size ≤ 4096 := h2
  rw [ByteArray.size_append, z] at h2
  exact ⟨k0, k1, by omega, h3⟩
theorem Good.q {st : St} (H : st.lg = false → Good st) {n : ByteArray} {t c : Int} (h : (qSt st n t c).lg = false) : Good (qSt st n t c) := by
  unfold qSt at h ⊢
  exact Good.raw (fun k => Good.name H k) h
/-- Behind a name that was put: it is read there, in whatever goes on. -/
theorem name_read {st : St} (H : Good st) {n U : ByteArray} (hn : nameB n = true) (hz : (st.S ++ outN st.m n ++ U).size ≤ 16000) : Ev (fun k => comp_Name.f k (st.S ++ outN st.m n ++ U) (st.S.size : Int)) (n, ((st.S.size + (outN st.m n).size : Nat) : Int), 0) := by
  have hs := name_size hn
  have hS := H.size
  have L := (put_known H.known hn (by omega)).2.1.more U
  rw [ByteArray.size_append] at L
  exact L.name (by omega) hs
theorem q_read {st : St} (H : Good st) {q : Qn} (hm : qMay q = true) (h : (qStep st q).lg = false) (U : ByteArray) (hz : ((qStep st q).S ++ U).size ≤ 16000) :
    Ev (fun k => questV k ((qStep st q).S ++ U) ⟨(st.S.size : Int), false⟩) (q, ⟨((qStep st q).S.size : Int), false⟩) := by
  obtain ⟨n, t, c⟩ := q
  unfold qMay at hm
  simp only [Bool.and_eq_true, inB_iff] at hm
  obtain ⟨⟨hn, t1, t2⟩, c1, c2⟩ := hm
  obtain ⟨_, _, h2, h3⟩ := qSt_ok h
  have e3 : qStep st ⟨n, t, c⟩ = ⟨st.S ++ outN st.m n ++ (p16 t ++ p16 c), putN st.m n st.S.size, false⟩ := h3
  rw [e3] at hz ⊢
  dsimp only at hz ⊢
  have eS : st.S ++ outN st.m n ++ (p16 t ++ p16 c) ++ U = st.S ++ outN st.m n ++ (p16 t ++ (p16 c ++ U)) := by simp only [ByteArray.append_assoc]
  have zS : (st.S ++ outN st.m n ++ (p16 t ++ p16 c)).size = st.S.size + (outN st.m n).size + 4 := by simp only [ByteArray.size_append, p16_size]
  have zT : (st.S ++ outN st.m n ++ (p16 t ++ p16 c) ++ U).size = st.S.size + (outN st.m n).size + 4 + U.size := by rw [ByteArray.size_append, zS]
  have hr := name_read H (n := n) (U := p16 t ++ (p16 c ++ U)) hn (by rw [← eS]; exact hz)
  rw [← eS] at hr
  have E := quest_ev hr (by rw [zT]; omega)
  have b1 : be2 (st.S ++ outN st.m n ++ (p16 t ++ p16 c) ++ U) (st.S.size + (outN st.m n).size) = t := by
    rw [show st.S ++ outN st.m n ++ (p16 t ++ p16 c) ++ U = (st.S ++ outN st.m n) ++ p16 t ++ (p16 c ++ U) by simp only [ByteArray.append_assoc]]
    exact be2_mid _ _ _ _ (by rw [ByteArray.size_append]) (by omega) t2
  have b2 : be2 (st.S ++ outN st.m n ++ (p16 t ++ p16 c) ++ U) (st.S.size + (outN st.m n).size + 2) = c := by
    rw [show st.S ++ outN st.m n ++ (p16 t ++ p16 c) ++ U = (st.S ++ outN st.m n ++ p16 t) ++ p16 c ++ U by simp only [ByteArray.append_assoc]]
    exact be2_mid _ _ _ _ (by simp only [ByteArray.size_append, p16_size]) c1 c2
  rw [b1, b2, show (t == 0) = false by simp; omega] at E
  rw [zS]
  exact E
/-! ### A record -/
theorem rSt_ok {st : St} {r : Rr} (h : (rSt st r).lg = false) : nameB r.name = true ∧ st.lg = false ∧ st.S.size + (outN st.m r.name).size + 10 + r.data.size ≤ 4096 ∧
    rSt st r = ⟨st.S ++ outN st.m r.name ++ (p16 r.type ++ p16 r.cls) ++ (p32 r.ttl ++ p16 (r.data.size : Int) ++ r.data), putN st.m r.name st.S.size, false⟩ := by
  unfold rSt at h ⊢
  obtain ⟨h1, h2, h3⟩ := raw_ok h
  obtain ⟨k0, k1, k2, k3⟩ := qSt_ok h1
  rw [k3] at h2 h3 ⊢
  have z : (p32 r.ttl ++ p16 (r.data.size : Int) ++ r.data).size = 6 + r.data.size := by simp only [ByteArray.size_append, p16_size, p32_size]
  have h2 : (st.S ++ outN st.m r.name ++ (p16 r.type ++ p16 r.cls)).size + (p32 r.ttl ++ p16 (r.data.size : Int) ++ r.data).size ≤ 4096 := h2
  rw [z] at h2
  simp only [ByteArray.size_append, p16_size] at h2
  exact ⟨k0, k1, by omega, h3⟩
theorem Good.r {st : St} (H : st.lg = false → Good st) {r : Rr} (h : (rSt st r).lg = false) : Good (rSt st r) := by
  unfold rSt at h ⊢
  exact Good.raw (fun k => Good.q H k) h
theorem r_read {st : St} (H : Good st) {r : Rr} (hm : rMay r = true) (h : (rSt st r).lg = false) (U : ByteArray) (hz : ((rSt st r).S ++ U).size ≤ 16000) :
    Ev (fun k => recV k ((rSt st r).S ++ U) ⟨(st.S.size : Int), false⟩) (r, ⟨((rSt st r).S.size : Int), false⟩) := by
  obtain ⟨n, t, c, l, d⟩ := r
  unfold rMay at hm
  simp only [Bool.and_eq_true, inB_iff] at hm
  obtain ⟨⟨⟨⟨hn, t1, t2⟩, c1, c2⟩, l1, l2⟩, hd⟩ := hm
  obtain ⟨_, _, h2, h3⟩ := rSt_ok h
  dsimp only at h2 h3 hn hd t1 t2 c1 c2 l1 l2
  rw [h3] at hz ⊢
  dsimp only at hz ⊢
  generalize hT : st.S ++ outN st.m n ++ (p16 t ++ p16 c) ++ (p32 l ++ p16 (d.size : Int) ++ d) ++ U = T at hz ⊢
  have zA : (st.S ++ outN st.m n).size = st.S.size + (outN st.m n).size := ByteArray.size_append
  have zS : (st.S ++ outN st.m n ++ (p16 t ++ p16 c) ++ (p32 l ++ p16 (d.size : Int) ++ d)).size = st.S.size + (outN st.m n).size + 10 + d.size := by simp only [ByteArray.size_append, p16_size, p32_size]; omega
  have zT : T.size = st.S.size + (outN st.m n).size + 10 + d.size + U.size := by rw [← hT, ByteArray.size_append, zS]
  have hr := name_read H (n := n) (U := p16 t ++ (p16 c ++ (p32 l ++ (p16 (d.size : Int) ++ (d ++ U))))) hn
  rw [show st.S ++ outN st.m n ++ (p16 t ++ (p16 c ++ (p32 l ++ (p16 (d.size : Int) ++ (d ++ U))))) = T by rw [← hT]; simp only [ByteArray.append_assoc]] at hr
  have b1 : be2 T (st.S.size + (outN st.m n).size) = t := by
    rw [show T = (st.S ++ outN st.m n) ++ p16 t ++ (p16 c ++ (p32 l ++ (p16 (d.size : Int) ++ (d ++ U)))) by rw [← hT]; simp only [ByteArray.append_assoc]]
    exact be2_mid _ _ _ _ (by rw [ByteArray.size_append]) (by omega) t2
  have b2 : be2 T (st.S.size + (outN st.m n).size + 2) = c := by
    rw [show T = (st.S ++ outN st.m n ++ p16 t) ++ p16 c ++ (p32 l ++ (p16 (d.size : Int) ++ (d ++ U))) by rw [← hT]; simp only [ByteArray.append_assoc]]
    exact be2_mid _ _ _ _ (by simp only [ByteArray.size_append, p16_size]) c1 c2
  have b3 : be4 T (st.S.size + (outN st.m n).size + 4) = l := by
    rw [show T = (st.S ++ outN st.m n ++ p16 t ++ p16 c) ++ p32 l ++ (p16 (d.size : Int) ++ (d ++ U)) by rw [← hT]; simp only [ByteArray.append_assoc]]
    exact be4_mid _ _ _ _ (by simp only [ByteArray.size_append, p16_size]) l1 l2
  have b4 : be2 T (st.S.size + (outN st.m n).size + 8) = (d.size : Int) := by
    rw [show T = (st.S ++ outN st.m n ++ p16 t ++ p16 c ++ p32 l) ++ p16 (d.size : Int) ++ (d ++ U) by rw [← hT]; simp only [ByteArray.append_assoc]]
    exact be2_mid _ _ _ _ (by simp only [ByteArray.size_append, p16_size, p32_size]) (by omega) (by omega)
  have hD : T.extract (st.S.size + (outN st.m n).size + 10) (st.S.size + (outN st.m n).size + 10 + d.size) = d := by
    rw [show T = (st.S ++ outN st.m n ++ p16 t ++ p16 c ++ p32 l ++ p16 (d.size : Int)) ++ (d ++ U) by rw [← hT]; simp only [ByteArray.append_assoc]]
    have zz : (st.S ++ outN st.m n ++ p16 t ++ p16 c ++ p32 l ++ p16 (d.size : Int)).size = st.S.size + (outN st.m n).size + 10 := by simp only [ByteArray.size_append, p16_size, p32_size]
    rw [← zz, ext_right, ext_left _ _ _ _ (Nat.le_refl _), ext0]
  have E := rec_ev (S := T) (i := st.S.size) (nx := st.S.size + (outN st.m n).size) (z := d.size) (d := d) (hr hz) (by rw [b1]; omega) hz b4 (by rw [zT]; omega) (by rw [b1]; exact data_of hz (by rw [zT]; omega) hD hd)
  rw [b1, b2, b3] at E
  rw [zS]
  exact E
/-! ### Lists -/
theorem foldQ_lg : ∀ (qs : List Qn) (st : St), (qs.foldl qStep st).lg = false → st.lg = false
  | [], _, h => h
  | q :: qs, st, h => (qSt_ok (foldQ_lg qs _ h)).2.1
theorem foldR_lg : ∀ (rs : List Rr) (st : St), (rs.foldl rSt st).lg = false → st.lg = false
  | [], _, h => h
  | r :: rs, st, h => (rSt_ok (foldR_lg rs _ h)).2.1
theorem foldQ_good : ∀ (qs : List Qn) (st : St), (st.lg = false → Good st) → (qs.foldl qStep st).lg = false → Good (qs.foldl qStep st)
  | [], _, H, h => H h
  | q :: qs, st, H, h => foldQ_good qs _ (fun k => Good.q H k) h
theorem foldR_good : ∀ (rs : List Rr) (st : St), (st.lg = false → Good st) → (rs.foldl rSt st).lg = false → Good (rs.foldl rSt st)
  | [], _, H, h => H h
  | r :: rs, st, H, h => foldR_good rs _ (fun k => Good.r H k) h
theorem foldQ_more : ∀ (qs : List Qn) (st : St), (qs.foldl qStep st).lg = false → ∃ V, (qs.foldl qStep st).S = st.S ++ V
  | [], st, _ => ⟨⟨#[]⟩, ByteArray.append_empty.symm⟩
  | q :: qs, st, h => by
    obtain ⟨V, hV⟩ := foldQ_more qs _ h
    obtain ⟨_, _, _, e⟩ := qSt_ok (foldQ_lg qs _ h)
    have e : qStep st q = _ := e
    refine ⟨outN st.m q.name ++ (p16 q.type ++ p16 q.cls) ++ V, ?_⟩
    rw [List.foldl_cons, hV, e]
    simp only [ByteArray.append_assoc]
theorem foldR_more : ∀ (rs : List Rr) (st : St), (rs.foldl rSt st).lg = false → ∃ V, (rs.foldl rSt st).S = st.S ++ V
  | [], st, _ => ⟨⟨#[]⟩, ByteArray.append_empty.symm⟩
  | r :: rs, st, h => by
    obtain ⟨V, hV⟩ := foldR_more rs _ h
    obtain ⟨_, _, _, e⟩ := rSt_ok (foldR_lg rs _ h)
    refine ⟨outN st.m r.name ++ (p16 r.type ++ p16 r.cls) ++ (p32 r.ttl ++ p16 (r.data.size : Int) ++ r.data) ++ V, ?_⟩
    rw [List.foldl_cons, hV, e]
    simp only [ByteArray.append_assoc]
theorem loopQ_read (T : ByteArray) (hT : T.size ≤ 16000) : ∀ (qs : List Qn) (st : St) (acc : List Qn), Good st → (∀ q ∈ qs, qMay q = true) → (qs.foldl qStep st).lg = false → (∃ U, T = (qs.foldl qStep st).S ++ U) →
    Ev (fun k => loopQ k T qs.length ⟨(st.S.size : Int), false⟩ acc) (acc ++ qs, ⟨((qs.foldl qStep st).S.size : Int), false⟩)
  | [], st, acc, _, _, _, _ => by simpa [loopQ] using Ev.now (acc, (⟨(st.S.size : Int), false⟩ : Rs))
  | q :: qs, st, acc, H, hm, h, hU => by
    have h1 := foldQ_lg qs _ h
    obtain ⟨V, hV⟩ := foldQ_more qs _ h
    obtain ⟨U, hU⟩ := hU
    have eT : T = (qStep st q).S ++ (V ++ U) := by rw [hU, List.foldl_cons, hV, ByteArray.append_assoc]
    have E := q_read H (hm q (List.mem_cons_self ..)) h1 (V ++ U) (by rw [← eT]; exact hT)
    rw [← eT] at E
    show Ev (fun k => if (false : Bool) = true then _ else _) _
    refine Ev.neg (by decide) (Ev.bind E ?_)
    have := loopQ_read T hT qs (qStep st q) (acc ++ [q]) (Good.q (fun _ => H) h1) (fun x hx => hm x (List.mem_cons_of_mem _ hx)) h ⟨U, hU⟩
    rw [List.append_assoc, List.singleton_append] at this
    exact this
theorem loopR_read (T : ByteArray) (hT : T.size ≤ 16000) : ∀ (rs : List Rr) (st : St) (acc : List Rr), Good st → (∀ r ∈ rs, rMay r = true) → (rs.foldl rSt st).lg = false → (∃ U, T = (rs.foldl rSt st).S ++ U) →
    Ev (fun k => loopR k T rs.length ⟨(st.S.size : Int), false⟩ acc) (acc ++ rs, ⟨((rs.foldl rSt st).S.size : Int), false⟩)
  | [], st, acc, _, _, _, _ => by simpa [loopR] using Ev.now (acc, (⟨(st.S.size : Int), false⟩ : Rs))
  | r :: rs, st, acc, H, hm, h, hU => by
    have h1 := foldR_lg rs _ h
    obtain ⟨V, hV⟩ := foldR_more rs _ h
    obtain ⟨U, hU⟩ := hU
    have eT : T = (rSt st r).S ++ (V ++ U) := by rw [hU, List.foldl_cons, hV, ByteArray.append_assoc]
    have E := r_read H (hm r (List.mem_cons_self ..)) h1 (V ++ U) (by rw [← eT]; exact hT)
    rw [← eT] at E
    show Ev (fun k => if (false : Bool) = true then _ else _) _
    refine Ev.neg (by decide) (Ev.bind E ?_)
    have := loopR_read T hT rs (rSt st r) (acc ++ [r]) (Good.r (fun _ => H) h1) (fun x hx => hm x (List.mem_cons_of_mem _ hx)) h ⟨U, hU⟩
    rw [List.append_assoc, List.singleton_append] at this
    exact this
theorem listQ_read {T : ByteArray} (hT : T.size ≤ 16000) {qs : List Qn} {st : St} (hl : qs.length ≤ 64) (H : Good st) (hm : ∀ q ∈ qs, qMay q = true) (h : (qs.foldl qStep st).lg = false) (hU : ∃ U, T = (qs.foldl qStep st).S ++ U) :
    Ev (fun k => listQ k T qs.length ⟨(st.S.size : Int), false⟩) (qs, ⟨((qs.foldl qStep st).S.size : Int), false⟩) := by
  unfold listQ
  rw [show (false || decide (64 < qs.length)) = false by simp; omega]
  exact loopQ_read T hT qs st [] H hm h hU
theorem listR_read {T : ByteArray} (hT : T.size ≤ 16000) {rs : List Rr} {st : St} (hl : rs.length ≤ 64) (H : Good st) (hm : ∀ r ∈ rs, rMay r = true) (h : (rs.foldl rSt st).lg = false) (hU : ∃ U, T = (rs.foldl rSt st).S ++ U) :
    Ev (fun k => listR k T rs.length ⟨(st.S.size : Int), false⟩) (rs, ⟨((rs.foldl rSt st).S.size : Int), false⟩) := by
  unfold listR
  rw [show (false || decide (64 < rs.length)) = false by simp; omega]
  exact loopR_read T hT rs st [] H hm h hU
end Go.Proofs.Ytjklgdpffmaamaa.Wm

namespace Go.Proofs.Ytjklgdpffmaamaa.Wm
open Go.RowKit Go.PlainAid Go.Proofs.Ytjklgdpffmaamaa.Base Go.Proofs.Ytjklgdpffmaamaa.Oct Go.Proofs.Ytjklgdpffmaamaa.Nm Go.Proofs.Ytjklgdpffmaamaa.Wr Go.Proofs.Ytjklgdpffmaamaa.PCm Go.Proofs.Ytjklgdpffmaamaa.CompS Go.Proofs.Ytjklgdpffmaamaa.Pu
open Go.Proofs.YtjklgdpffmaamaaW.PrintWords (Ev bytesOf bytesOf_length LeO)
set_option linter.unusedVariables false
theorem st0_ok {hS : ByteArray} (h : hS.size = 12) : st0 hS = ⟨hS, fun _ => none, false⟩ := by
  unfold st0 rawSt
  rw [if_neg (by show ¬ 4096 < 0 + hS.size; omega)]
  rw [show (⟨#[]⟩ : ByteArray) ++ hS = hS from ByteArray.empty_append]
theorem st0_good {hS : ByteArray} (h : hS.size = 12) : Good (st0 hS) := by
  rw [st0_ok h]
  exact ⟨(fun r t k => by cases k), by show hS.size ≤ 4096; omega, rfl⟩
theorem putOk_parts {m : MsgV} (h : putOk m = true) : hOk m = true ∧ hStr m = m.h.putS m.qs.length m.an.length m.ns.length m.ar.length ∧ (m.qs.length ≤ 64 ∧ m.an.length ≤ 64 ∧ m.ns.length ≤ 64 ∧ m.ar.length ≤ 64) ∧ (∀ q ∈ m.qs, qMay q = true) ∧ (∀ r ∈ m.an, rMay r = true) ∧ (∀ r ∈ m.ns, rMay r = true) ∧ (∀ r ∈ m.ar, rMay r = true) := by
  unfold putOk at h
  simp only [Bool.and_eq_true] at h
  obtain ⟨h0, h1⟩ := h
  have hl := fits_len h1
  unfold fitsB at h1
  simp only [Bool.and_eq_true, List.all_eq_true] at h1
  obtain ⟨⟨⟨⟨_, a⟩, _, b⟩, _, c⟩, _, d⟩ := h1
  refine ⟨h0, ?_, hl, a, b, c, d⟩
  unfold hStr Hd.wroteS
  exact if_pos h0
structure Steps (m : MsgV) where
  g0 : Good (st0 (hStr m))
  gq : Good (m.qs.foldl qStep (st0 (hStr m)))
  ga : Good (m.an.foldl rSt (m.qs.foldl qStep (st0 (hStr m))))
  gn : Good (m.ns.foldl rSt (m.an.foldl rSt (m.qs.foldl qStep (st0 (hStr m)))))
  gr : Good (putEnd m)
theorem steps {m : MsgV} (hok : putOk m = true) (hl : (putEnd m).lg = false) : Steps m := by
  obtain ⟨h0, hs, _⟩ := putOk_parts hok
  have z : (hStr m).size = 12 := by rw [hs, Hd.putS_size]
  have l3 := foldR_lg m.ar _ hl
  have l2 := foldR_lg m.ns _ l3
  have l1 := foldR_lg m.an _ l2
  have G0 := st0_good z
  have G1 := foldQ_good m.qs _ (fun _ => G0) l1
  have G2 := foldR_good m.an _ (fun _ => G1) l2
  have G3 := foldR_good m.ns _ (fun _ => G2) l3
  exact ⟨G0, G1, G2, G3, foldR_good m.ar _ (fun _ => G3) hl⟩
/-- Reading what was written, whatever goes on behind it. -/
theorem get_put {m : MsgV} (hok : putOk m = true) (hl : (putEnd m).lg = false) (U : ByteArray) (hz : ((putEnd m).S ++ U).size ≤ 4096) :
    Ev (fun k => getV k ((putEnd m).S ++ U)) (if U.size = 0 then ⟨m.h, m.qs, m.an, m.ns, m.ar, 0⟩ else got0 700) := by
  obtain ⟨h0, hs, ⟨n1, n2, n3, n4⟩, q1, q2, q3, q4⟩ := putOk_parts hok
  have z : (hStr m).size = 12 := by rw [hs, Hd.putS_size]
  obtain ⟨G0, G1, G2, G3, G4⟩ := steps hok hl
  obtain ⟨V1, e1⟩ := foldQ_more m.qs (st0 (hStr m)) G1.lg
  obtain ⟨V2, e2⟩ := foldR_more m.an _ G2.lg
  obtain ⟨V3, e3⟩ := foldR_more m.ns _ G3.lg
  obtain ⟨V4, e4⟩ := foldR_more m.ar _ G4.lg
  have e4 : (putEnd m).S = (m.ns.foldl rSt (m.an.foldl rSt (m.qs.foldl qStep (st0 (hStr m))))).S ++ V4 := e4
  have s0 : (st0 (hStr m)).S = hStr m := by rw [st0_ok z]
  rw [s0] at e1
  generalize hT : (putEnd m).S ++ U = T at hz ⊢
  have eT : T = m.h.putS m.qs.length m.an.length m.ns.length m.ar.length ++ (V1 ++ (V2 ++ (V3 ++ (V4 ++ U)))) := by
    rw [← hT, e4, e3, e2, e1, hs]; simp only [ByteArray.append_assoc]
  have zT : 12 ≤ T.size := by rw [eT, ByteArray.size_append, Hd.putS_size]; omega
  obtain ⟨b0, b4, b6, b8, b10, _⟩ := Hd.back m.h _ _ _ _ (V1 ++ (V2 ++ (V3 ++ (V4 ++ U)))) h0
  rw [← eT, Hd.gotH_yes zT] at b0
  rw [← eT, Hd.gotC_yes zT] at b4 b6 b8 b10
  have zU : T.size = (putEnd m).S.size + U.size := by rw [← hT, ByteArray.size_append]
  unfold getV
  refine Ev.neg (by omega) (Ev.neg (by omega) ?_)
  rw [b4, b6, b8, b10]
  simp only [Int.toNat_natCast]
  have c1 : ∃ X, T = (m.qs.foldl qStep (st0 (hStr m))).S ++ X := ⟨V2 ++ (V3 ++ (V4 ++ U)), by rw [← hT, e4, e3, e2]; simp only [ByteArray.append_assoc]⟩
  have c2 : ∃ X, T = (m.an.foldl rSt (m.qs.foldl qStep (st0 (hStr m)))).S ++ X := ⟨V3 ++ (V4 ++ U), by rw [← hT, e4, e3]; simp only [ByteArray.append_assoc]⟩
  have c3 : ∃ X, T = (m.ns.foldl rSt (m.an.foldl rSt (m.qs.foldl qStep (st0 (hStr m))))).S ++ X := ⟨V4 ++ U, by rw [← hT, e4]; simp only [ByteArray.append_assoc]⟩
  have r1 := listQ_read (T := T) (by omega) n1 G0 q1 G1.lg c1
  rw [s0, z] at r1
  refine Ev.bind r1 ?_
  refine Ev.bind (listR_read (T := T) (by omega) n2 G1 q2 G2.lg c2) ?_
  refine Ev.bind (listR_read (T := T) (by omega) n3 G2 q3 G3.lg c3) ?_
  refine Ev.bind (listR_read (T := T) (by omega) n4 G3 q4 G4.lg ⟨U, hT.symm⟩) ?_
  dsimp only
  rw [show (List.foldl rSt (List.foldl rSt (List.foldl rSt (List.foldl qStep (st0 (hStr m)) m.qs) m.an) m.ns) m.ar) = putEnd m from rfl]
  by_cases hU : U.size = 0
  · rw [if_pos hU]
    refine Ev.neg (by simp; omega) (Ev.some _ fun _ => ?_)
    rw [b0]
  · rw [if_neg hU]
    exact Ev.pos (by simp; omega) (Ev.some _ fun _ => rfl)
theorem put_S {m : MsgV} (hok : putOk m = true) (hl : (putEnd m).lg = false) : putS m = (putEnd m).S ∧ putE m = 0 ∧ 12 ≤ (putEnd m).S.size ∧ (putEnd m).S.size ≤ 4096 := by
  unfold putS putE
  rw [if_pos hok, if_pos hok, if_neg (by rw [hl]; decide), if_neg (by rw [hl]; decide)]
  obtain ⟨h0, hs, _⟩ := putOk_parts hok
  have z : (hStr m).size = 12 := by rw [hs, Hd.putS_size]
  obtain ⟨G0, G1, G2, G3, G4⟩ := steps hok hl
  obtain ⟨V1, e1⟩ := foldQ_more m.qs (st0 (hStr m)) G1.lg
  obtain ⟨V2, e2⟩ := foldR_more m.an _ G2.lg
  obtain ⟨V3, e3⟩ := foldR_more m.ns _ G3.lg
  obtain ⟨V4, e4⟩ := foldR_more m.ar _ G4.lg
  have e4 : (putEnd m).S = (m.ns.foldl rSt (m.an.foldl rSt (m.qs.foldl qStep (st0 (hStr m))))).S ++ V4 := e4
  have s0 : (st0 (hStr m)).S = hStr m := by rw [st0_ok z]
  refine ⟨rfl, rfl, ?_, G4.size⟩
  rw [e4, e3, e2, e1, s0]
  simp only [ByteArray.size_append]
  omega
theorem put_err {m : MsgV} (h : ¬ (putOk m = true ∧ (putEnd m).lg = false)) : putS m = ⟨#[]⟩ ∧ (putE m = 700 ∧ putOk m = false ∨ putE m = 701 ∧ putOk m = true ∧ (putEnd m).lg = true) := by
  unfold putS putE
  by_cases hok : putOk m = true
  · have hl : (putEnd m).lg = true := by
      cases hl : (putEnd m).lg with
      | true => rfl
      | false => exact absurd ⟨hok, hl⟩ h
    rw [if_pos hok, if_pos hok, if_pos hl, if_pos hl]
    exact ⟨rfl, .inr ⟨rfl, hok, hl⟩⟩
  · rw [if_neg hok, if_neg hok]
    exact ⟨rfl, .inl ⟨rfl, by simpa using hok⟩⟩
end Go.Proofs.Ytjklgdpffmaamaa.Wm

namespace Go.Proofs.Ytjklgdpffmaamaa.Wm
open Go.RowKit Go.PlainAid Go.Proofs.Ytjklgdpffmaamaa.Base Go.Proofs.Ytjklgdpffmaamaa.Oct Go.Proofs.Ytjklgdpffmaamaa.Nm Go.Proofs.Ytjklgdpffmaamaa.Wr Go.Proofs.Ytjklgdpffmaamaa.PCm Go.Proofs.Ytjklgdpffmaamaa.CompS Go.Proofs.Ytjklgdpffmaamaa.Pu
open Go.Proofs.YtjklgdpffmaamaaW.PrintWords (Ev bytesOf bytesOf_length LeO)
set_option linter.unusedVariables false
/-! ### A name -/
/-! ### Names, data -/
theorem app_nil (s : ByteArray) : s ++ (⟨#[]⟩ : ByteArray) = s := ByteArray.append_empty
/-! ### A question, a record -/
/-! ### Lists -/
end Go.Proofs.Ytjklgdpffmaamaa.Wm

namespace Go.Proofs.Ytjklgdpffmaamaa.WirePWz
open Go.RowKit Go.Proofs.Ytjklgdpffmaamaa.PWz Go.Proofs.Ytjklgdpffmaamaa.Pu Go.Proofs.Ytjklgdpffmaamaa.Wm Go.Proofs.Ytjklgdpffmaamaa.Oct Go.Proofs.Ytjklgdpffmaamaa.Nm Go.Proofs.Ytjklgdpffmaamaa.Wr
open Go.Proofs.YtjklgdpffmaamaaW.PrintWords (Ev LeO)
set_option linter.unusedVariables false
theorem sameQ_at (l : List S40) (hl : l.length ≤ 1000000) : ∀ n i, l.length - i ≤ n → i ≤ l.length → Ev (fun k => wimplelaw0_SameQuestions.l0 k l l (i : Int)) true := by
  intro n
  induction n with
  | zero => intro i h h2; exact Ev.step (fun k => by rw [wimplelaw0_SameQuestions.l0]) (Ev.neg (by omega) (Ev.now _))
  | succ n ih =>
    intro i h h2
    by_cases hi : i < l.length
    · refine Ev.step (fun k => by rw [wimplelaw0_SameQuestions.l0]) (Ev.pos (by omega) (Ev.pos (by omega) (Ev.pos (by omega) (Ev.neg (by simp) ?_))))
      rw [Pu.w64 (by omega) (by omega), show (i : Int) + 1 = ((i + 1 : Nat) : Int) by omega]
      exact ih (i + 1) (by omega) (by omega)
    · exact Ev.step (fun k => by rw [wimplelaw0_SameQuestions.l0]) (Ev.neg (by omega) (Ev.now _))
theorem sameQ (l : List S40) (hl : l.length ≤ 1000000) : Ev (fun k => wimplelaw0_SameQuestions.f k l l) true := Ev.pos rfl (sameQ_at l hl _ 0 (Nat.le_refl _) (by omega))
theorem sameR_at (l : List S53) (hl : l.length ≤ 1000000) : ∀ n i, l.length - i ≤ n → i ≤ l.length → Ev (fun k => wimplelaw0_SameRrs.l0 k l l (i : Int)) true := by
  intro n
  induction n with
  | zero => intro i h h2; exact Ev.step (fun k => by rw [wimplelaw0_SameRrs.l0]) (Ev.neg (by omega) (Ev.now _))
  | succ n ih =>
    intro i h h2
    by_cases hi : i < l.length
    · refine Ev.step (fun k => by rw [wimplelaw0_SameRrs.l0]) (Ev.pos (by omega) (Ev.pos (by omega) (Ev.pos (by omega) (Ev.neg (by simp) ?_))))
      rw [Pu.w64 (by omega) (by omega), show (i : Int) + 1 = ((i + 1 : Nat) : Int) by omega]
      exact ih (i + 1) (by omega) (by omega)
    · exact Ev.step (fun k => by rw [wimplelaw0_SameRrs.l0]) (Ev.neg (by omega) (Ev.now _))
theorem sameR (l : List S53) (hl : l.length ≤ 1000000) : Ev (fun k => wimplelaw0_SameRrs.f k l l) true := Ev.pos rfl (sameR_at l hl _ 0 (Nat.le_refl _) (by omega))
theorem sameM (id : Int) (qr : Bool) (op : Int) (aa tc rd ra : Bool) (z rc : Int) (qs : List S40) (an ns ar : List S53) (h1 : qs.length ≤ 1000000) (h2 : an.length ≤ 1000000) (h3 : ns.length ≤ 1000000) (h4 : ar.length ≤ 1000000) :
    Ev (fun k => wimplelaw0_SameMsg.f k id qr op aa tc rd ra z rc qs an ns ar id qr op aa tc rd ra z rc qs an ns ar) true :=
  Ev.pos (by simp) (Ev.bind (sameQ qs h1) (Ev.pos rfl (Ev.bind (sameR an h2) (Ev.pos rfl (Ev.bind (sameR ns h3) (Ev.pos rfl (Ev.bind (sameR ar h4) (Ev.now _))))))))
/-- What is read, in the print's words. -/
abbrev tup (g : Got) : Int × Bool × Int × Bool × Bool × Bool × Bool × Int × Int × List S40 × List S53 × List S53 × List S53 × Int :=
  (g.h.id, g.h.qr, g.h.op, g.h.aa, g.h.tc, g.h.rd, g.h.ra, g.h.z, g.h.rc, g.qs.map wm_Q', g.an.map wm_R', g.ns.map wm_R', g.ar.map wm_R', g.e)
theorem get_ev {s : ByteArray} {g : Got} (hs : s.size ≤ 9223372036854775000) (h : Ev (fun k => getV k s) g) : Ev (fun k => wire_Get.f k s) (tup g) := by
  obtain ⟨K, h⟩ := h
  refine ⟨K, fun k hk => ?_⟩
  show (getF k s).map _ = _
  unfold getF
  have h := h k hk
  dsimp only at h
  rw [if_pos hs, h]
  rfl
theorem small_map {l : List S53} (h : ∀ x ∈ l, x.f4.size ≤ 9223372036854775000) : smallB (l.map wm_R) = true := by
  unfold smallB
  rw [List.all_eq_true]
  intro r hr
  obtain ⟨x, hx, rfl⟩ := List.mem_map.1 hr
  exact decide_eq_true (h x hx)
theorem put_some (id : Int) (qr : Bool) (op : Int) (aa tc rd ra : Bool) (z rc : Int) (qs : List S40) (an ns ar : List S53) (h2 : ∀ x ∈ an, x.f4.size ≤ 9223372036854775000) (h3 : ∀ x ∈ ns, x.f4.size ≤ 9223372036854775000) (h4 : ∀ x ∈ ar, x.f4.size ≤ 9223372036854775000) :
    wire_Put.f id qr op aa tc rd ra z rc qs an ns ar = some (putS (msgOf ⟨id, qr, op, aa, tc, rd, ra, z, rc⟩ (qs.map wm_Q) (an.map wm_R) (ns.map wm_R) (ar.map wm_R)), putE (msgOf ⟨id, qr, op, aa, tc, rd, ra, z, rc⟩ (qs.map wm_Q) (an.map wm_R) (ns.map wm_R) (ar.map wm_R))) := by
  unfold wire_Put.f wirePutF
  rw [if_pos (by rw [small_map h2, small_map h3, small_map h4]; rfl)]
theorem fresh (A : ByteArray) (h : A.size ≤ 4096) : Wm.Good (⟨A, fun _ => none, false⟩ : St) := ⟨(fun r t k => by cases k), h, rfl⟩
theorem q_fits {st : St} (H : Wm.Good st) {n : ByteArray} (t c : Int) (hn : nameB n = true) (hz : st.S.size + n.size + 4 ≤ 4096) : (qSt st n t c).lg = false ∧ (qSt st n t c).S.size ≤ st.S.size + n.size + 4 := by
  have hs := name_size hn
  have hS := H.size
  have ho := (put_known H.known hn (by omega)).1
  unfold qSt nameSt
  rw [if_pos hn, if_neg (by omega)]
  unfold rawSt
  have z : (p16 t ++ p16 c).size = 4 := by rw [ByteArray.size_append, p16_size, p16_size]
  dsimp only
  rw [if_neg (by rw [ByteArray.size_append, z]; omega)]
  exact ⟨H.lg, by rw [ByteArray.size_append, ByteArray.size_append, z]; omega⟩
theorem may_999 {d : ByteArray} (h : d.size ≤ 65535) : Rd.mayD 999 d = true := by
  unfold Rd.mayD
  rw [if_neg (by decide), if_neg (by decide), if_neg (by omega)]
  simp
theorem awake : Ev (fun k => wimplelaw7_awake.f k) true := Ev.of wimplelaw7_awake.mono (k := 60) (by decide +kernel)
end Go.Proofs.Ytjklgdpffmaamaa.WirePWz

namespace Go.Proofs.Ytjklgdpffmaamaa.Pure
open Go.RowKit Go.Proofs.Ytjklgdpffmaamaa.PWz Go.Proofs.Ytjklgdpffmaamaa.Pu Go.Proofs.Ytjklgdpffmaamaa.Wm Go.Proofs.Ytjklgdpffmaamaa.WirePWz Go.Proofs.Ytjklgdpffmaamaa.Oct Go.Proofs.Ytjklgdpffmaamaa.Nm Go.Proofs.Ytjklgdpffmaamaa.Wr
open Go.Proofs.YtjklgdpffmaamaaW.PrintWords (Ev LeO)
set_option linter.unusedVariables false
theorem many_at (n D : ByteArray) (M : Nat) (hM : M ≤ 1000) : ∀ j i (acc : List S53), M - i ≤ j → i ≤ M → acc = List.replicate i (⟨n, 999, 1, 0, D⟩ : S53) →
    Ev (fun k => wimplelaw7_many.l0 k (M : Int) acc (i : Int) n 999 1 0 D) (List.replicate M (⟨n, 999, 1, 0, D⟩ : S53)) := by
  intro j
  induction j with
  | zero =>
    intro i acc h h2 ha
    obtain rfl : i = M := by omega
    refine Ev.step (fun k => by rw [wimplelaw7_many.l0]) (Ev.neg (by omega) ?_)
    rw [ha]; exact Ev.now _
  | succ j ih =>
    intro i acc h h2 ha
    by_cases hi : i < M
    · refine Ev.step (fun k => by rw [wimplelaw7_many.l0]) (Ev.pos (by omega) (Ev.pos (by rw [ha, List.length_replicate]; omega) ?_))
      rw [Pu.w64 (by omega) (by omega), show (i : Int) + 1 = ((i + 1 : Nat) : Int) by omega]
      exact ih (i + 1) _ (by omega) (by omega) (by rw [ha, List.replicate_succ'])
    · obtain rfl : i = M := by omega
      refine Ev.step (fun k => by rw [wimplelaw7_many.l0]) (Ev.neg (by omega) ?_)
      rw [ha]; exact Ev.now _
/-- A record whose name is kept: two bytes for the name. -/
theorem r_known {st : St} (H : Wm.Good st) {r : Rr} (hn : nameB r.name = true) (h0 : r.name ≠ root) (hm : (st.m r.name).isSome = true) (hz : st.S.size + (12 + r.data.size) ≤ 4096) :
    (rSt st r).lg = false ∧ (rSt st r).S.size = st.S.size + (12 + r.data.size) ∧ ((rSt st r).m r.name).isSome = true := by
  have ho := outN_known hn h0 hm
  have z4 : (p16 r.type ++ p16 r.cls).size = 4 := by rw [ByteArray.size_append, p16_size, p16_size]
  have z6 : (p32 r.ttl ++ p16 (r.data.size : Int) ++ r.data).size = 6 + r.data.size := by simp only [ByteArray.size_append, p16_size, p32_size]
  have e : rSt st r = ⟨st.S ++ outN st.m r.name ++ (p16 r.type ++ p16 r.cls) ++ (p32 r.ttl ++ p16 (r.data.size : Int) ++ r.data), putN st.m r.name st.S.size, st.lg⟩ := by
    unfold rSt qSt nameSt
    rw [if_pos hn, if_neg (by omega)]
    unfold rawSt
    have c1 : ¬ 4096 < (st.S ++ outN st.m r.name).size + (p16 r.type ++ p16 r.cls).size := by rw [ByteArray.size_append, z4]; omega
    have c2 : ¬ 4096 < (st.S ++ outN st.m r.name ++ (p16 r.type ++ p16 r.cls)).size + (p32 r.ttl ++ p16 (r.data.size : Int) ++ r.data).size := by rw [ByteArray.size_append, ByteArray.size_append, z4, z6]; omega
    simp only [if_neg c1, if_neg c2]
  rw [e]
  refine ⟨H.lg, ?_, putN_some (m := st.m) r.name st.S.size hm⟩
  simp only [ByteArray.size_append, ho, p16_size, p32_size]
  omega
theorem fold_known {r : Rr} (hn : nameB r.name = true) (h0 : r.name ≠ root) (e : Nat) (he : e = 12 + r.data.size) : ∀ (j : Nat) (st : St), Wm.Good st → (st.m r.name).isSome = true →
    (st.S.size + j * e ≤ 4096 → ((List.replicate j r).foldl rSt st).lg = false ∧ ((List.replicate j r).foldl rSt st).S.size = st.S.size + j * e) ∧ (4096 < st.S.size + j * e → ((List.replicate j r).foldl rSt st).lg = true) := by
  intro j
  induction j with
  | zero =>
    intro st H hm
    have := H.size
    exact ⟨fun _ => ⟨H.lg, by simp⟩, fun h => by omega⟩
  | succ j ih =>
    intro st H hm
    rw [List.replicate_succ, List.foldl_cons, Nat.succ_mul]
    by_cases hz : st.S.size + e ≤ 4096
    · obtain ⟨a1, a2, a3⟩ := r_known H hn h0 hm (by omega)
      obtain ⟨i1, i2⟩ := ih _ (Wm.Good.r (fun _ => H) a1) a3
      rw [a2, ← he] at i1 i2
      exact ⟨fun h => by have := i1 (by omega); exact ⟨this.1, by omega⟩, fun h => i2 (by omega)⟩
    · refine ⟨fun h => by omega, fun _ => ?_⟩
      cases hl : ((List.replicate j r).foldl rSt (rSt st r)).lg with
      | true => rfl
      | false =>
        have h1 := rSt_ok (foldR_lg _ _ hl)
        have h2 := h1.2.2.1
        rw [outN_known hn h0 hm] at h2
        omega
def sizeH : Hd.Head := ⟨0, false, 0, false, false, false, false, 0, 0⟩
theorem size_may (M : Nat) (h : M ≤ 64) : Hd.mayB sizeH 1 M 0 0 = true := by
  refine decide_eq_true ⟨⟨⟨by decide, by decide⟩, ⟨by omega, by omega⟩, ⟨by decide, by decide⟩, ⟨by decide, by decide⟩⟩, ?_⟩
  exact ⟨⟨by decide, by decide⟩, ⟨by decide, by decide⟩, ⟨by decide, by decide⟩, ⟨by decide, by decide⟩⟩
theorem size_ok {n D : ByteArray} {M : Nat} (hn : nameB n = true) (hM : M ≤ 63) (hD : D.size ≤ 63) : putOk (msgOf sizeH [⟨n, 1, 1⟩] (List.replicate M ⟨n, 999, 1, 0, D⟩) [] []) = true := by
  unfold putOk
  rw [Bool.and_eq_true]
  refine ⟨?_, ?_⟩
  · show Hd.mayB sizeH 1 (((List.replicate M (⟨n, 999, 1, 0, D⟩ : Rr)).length : Nat) : Int) 0 0 = true
    rw [List.length_replicate]; exact size_may M (by omega)
  · show fitsB [⟨n, 1, 1⟩] (List.replicate M ⟨n, 999, 1, 0, D⟩) [] [] = true
    have mr : rMay ⟨n, 999, 1, 0, D⟩ = true := by
      unfold rMay
      simp only [Bool.and_eq_true, inB_iff]
      exact ⟨⟨⟨⟨hn, by decide, by decide⟩, by decide, by decide⟩, by decide, by decide⟩, may_999 (by omega)⟩
    have mq : qMay ⟨n, 1, 1⟩ = true := by
      unfold qMay
      simp only [Bool.and_eq_true, inB_iff]
      exact ⟨⟨hn, by decide, by decide⟩, by decide, by decide⟩
    unfold fitsB
    simp only [Bool.and_eq_true, List.all_eq_true, decide_eq_true_eq, List.length_replicate]
    refine ⟨⟨⟨⟨by simp, fun q hq => ?_⟩, by omega, fun q hq => ?_⟩, by decide, fun q hq => by simp at hq⟩, by decide, fun q hq => by simp at hq⟩
    · rw [List.mem_singleton.1 hq]; exact mq
    · rw [List.eq_of_mem_replicate hq]; exact mr
theorem size_put {n D : ByteArray} {M : Nat} (hn : nameB n = true) (h0 : n ≠ root) (hM : M ≤ 63) (hD : D.size ≤ 63) :
    (16 + n.size + M * (12 + D.size) ≤ 4096 → (putEnd (msgOf sizeH [⟨n, 1, 1⟩] (List.replicate M ⟨n, 999, 1, 0, D⟩) [] [])).lg = false ∧ (putEnd (msgOf sizeH [⟨n, 1, 1⟩] (List.replicate M ⟨n, 999, 1, 0, D⟩) [] [])).S.size = 16 + n.size + M * (12 + D.size)) ∧
    (4096 < 16 + n.size + M * (12 + D.size) → (putEnd (msgOf sizeH [⟨n, 1, 1⟩] (List.replicate M ⟨n, 999, 1, 0, D⟩) [] [])).lg = true) := by
  have hs := name_size hn
  obtain ⟨k0, e0, _⟩ := putOk_parts (size_ok hn hM hD)
  have z : (hStr (msgOf sizeH [⟨n, 1, 1⟩] (List.replicate M ⟨n, 999, 1, 0, D⟩) [] [])).size = 12 := by rw [e0, Hd.putS_size]
  have es := st0_ok z
  have zq : (qSt (st0 (hStr (msgOf sizeH [⟨n, 1, 1⟩] (List.replicate M ⟨n, 999, 1, 0, D⟩) [] []))) n 1 1).lg = false := by
    rw [es]; exact (q_fits (fresh _ (by omega)) 1 1 hn (by show _ + n.size + 4 ≤ 4096; dsimp only; omega)).1
  obtain ⟨_, _, _, eq⟩ := qSt_ok zq
  have G := Wm.Good.q (fun _ => st0_good z) zq
  have hm : ((qSt (st0 (hStr (msgOf sizeH [⟨n, 1, 1⟩] (List.replicate M ⟨n, 999, 1, 0, D⟩) [] []))) n 1 1).m n).isSome = true := by
    rw [eq]; exact putN_self _ _ hn h0
  have zz : (qSt (st0 (hStr (msgOf sizeH [⟨n, 1, 1⟩] (List.replicate M ⟨n, 999, 1, 0, D⟩) [] []))) n 1 1).S.size = 16 + n.size := by
    rw [eq, es, outN_plain]
    simp only [ByteArray.size_append, p16_size, z]
    omega
  have F := fold_known (r := ⟨n, 999, 1, 0, D⟩) hn h0 (12 + D.size) rfl M _ G hm
  rw [zz] at F
  exact F
theorem not_root {n : ByteArray} : (n.toList == ([0] : List UInt8)) = decide (n = root) := by
  rw [Bool.eq_iff_iff]
  simp only [beq_iff_eq, decide_eq_true_eq]
  constructor
  · intro h
    exact Pu.toList_inj (h.trans (by decide +kernel))
  · rintro rfl
    decide +kernel
theorem zeros_size (d : Nat) : (Go.strOfNums (List.replicate d 0)).size = d := by rw [Go.strOfNums_size, List.length_replicate]
theorem WireSizes : wimplelaw7_WireSizes.Pure := by
  intro n k x hn0 _ _
  refine Ev.rounds (r := true) ?_
  refine Ev.bind awake (Ev.pos rfl (Ev.call (a := nameB n) rfl ?_))
  by_cases hn : nameB n = true
  · refine Ev.pos hn ?_
    rw [not_root]
    by_cases h0 : n = root
    · rw [decide_eq_true h0]
      exact Ev.step (fun k => by rw [wimplelaw7_WireSizes.j0]) (Ev.pos rfl (Ev.now _))
    · rw [decide_eq_false h0]
      refine Ev.step (fun k => by rw [wimplelaw7_WireSizes.j0]) (Ev.neg (by decide) ?_)
      have hs := name_size hn
      obtain ⟨M, hM, hM2⟩ : ∃ M : Nat, Go.bits .and .i64 k 63 = (M : Int) ∧ M ≤ 63 := ⟨(Go.bits .and .i64 k 63).toNat, by rw [Pu.and_63]; omega, by rw [Pu.and_63]; omega⟩
      obtain ⟨d, hd, hd2⟩ : ∃ d : Nat, Go.bits .and .i64 x 63 = (d : Int) ∧ d ≤ 63 := ⟨(Go.bits .and .i64 x 63).toNat, by rw [Pu.and_63]; omega, by rw [Pu.and_63]; omega⟩
      rw [hM, hd, Int.toNat_natCast]
      have zD := zeros_size d
      generalize Go.strOfNums (List.replicate d 0) = D at zD ⊢
      refine Ev.pos (by omega) (Ev.pos (by omega) (Ev.call (a := _) rfl (Ev.bind (many_at n D M (by omega) M 0 [] (by omega) (by omega) rfl) ?_)))
      refine Ev.call (put_some 0 false 0 false false false false 0 0 _ _ [] [] (by intro y hy; rw [List.eq_of_mem_replicate hy]; show D.size ≤ _; omega) (by simp) (by simp)) ?_
      rw [show msgOf ⟨0, false, 0, false, false, false, false, 0, 0⟩ (List.map wm_Q [(⟨n, 1, 1⟩ : S40)]) (List.map wm_R (List.replicate M (⟨n, 999, 1, 0, D⟩ : S53))) (List.map wm_R []) (List.map wm_R []) = msgOf sizeH [⟨n, 1, 1⟩] (List.replicate M ⟨n, 999, 1, 0, D⟩) [] [] by rw [List.map_replicate]; rfl]
      have hok := size_ok hn hM2 (show D.size ≤ 63 by omega)
      obtain ⟨P1, P2⟩ := size_put hn h0 hM2 (show D.size ≤ 63 by omega)
      have hp : M * (12 + D.size) ≤ 63 * 75 := Nat.mul_le_mul hM2 (by omega)
      have ep : (M : Int) * (12 + (d : Int)) = ((M * (12 + D.size) : Nat) : Int) := by rw [zD]; simp
      rw [Pu.w64 (x := 12 + (n.size : Int)) (by omega) (by omega), Pu.w64 (x := 12 + (n.size : Int) + 4) (by omega) (by omega), Pu.w64 (x := 12 + (d : Int)) (by omega) (by omega), ep]
      generalize M * (12 + D.size) = p at hp P1 P2 ⊢
      rw [Pu.w64 (x := (p : Int)) (by omega) (by omega), Pu.w64 (x := 12 + (n.size : Int) + 4 + (p : Int)) (by omega) (by omega)]
      by_cases hz : 16 + n.size + p ≤ 4096
      · obtain ⟨l1, l2⟩ := P1 hz
        obtain ⟨s1, s2, s3, s4⟩ := put_S hok l1
        rw [s1, s2]
        dsimp only
        refine Ev.neg (by omega) ?_
        have G := get_put hok l1 ⟨#[]⟩ (by rw [app_nil]; exact s4)
        rw [app_nil, if_pos (show (⟨#[]⟩ : ByteArray).size = 0 from rfl)] at G
        refine Ev.bind (get_ev (by omega) G) ?_
        refine Ev.call (a := 0) rfl (Ev.pos rfl (Ev.pos (by omega) (Ev.call (a := 0) rfl (Ev.pos rfl ?_))))
        have e2 : (List.replicate M (⟨n, 999, 1, 0, D⟩ : Rr)).map wm_R' = List.replicate M (⟨n, 999, 1, 0, D⟩ : S53) := by rw [List.map_replicate]; rfl
        have := sameM 0 false 0 false false false false 0 0 [(⟨n, 1, 1⟩ : S40)] (List.replicate M (⟨n, 999, 1, 0, D⟩ : S53)) [] [] (by simp) (by rw [List.length_replicate]; omega) (by simp) (by simp)
        refine Ev.bind (a := true) ?_ (Ev.now _)
        show Ev (fun k => wimplelaw0_SameMsg.f k 0 false 0 false false false false 0 0 [(⟨n, 1, 1⟩ : S40)] (List.replicate M (⟨n, 999, 1, 0, D⟩ : S53)) [] [] 0 false 0 false false false false 0 0 [(⟨n, 1, 1⟩ : S40)] ((List.replicate M (⟨n, 999, 1, 0, D⟩ : Rr)).map wm_R') [] []) true
        rw [e2]
        exact this
      · have l1 := P2 (by omega)
        obtain ⟨s1, s2⟩ := put_err (m := msgOf sizeH [⟨n, 1, 1⟩] (List.replicate M ⟨n, 999, 1, 0, D⟩) [] []) (by rw [l1]; simp)
        have s2 : putE (msgOf sizeH [⟨n, 1, 1⟩] (List.replicate M ⟨n, 999, 1, 0, D⟩) [] []) = 701 := by
          rcases s2 with ⟨_, h⟩ | ⟨h, _⟩
          · rw [hok] at h; cases h
          · exact h
        rw [s1, s2]
        dsimp only
        refine Ev.pos (by omega) (Ev.call (a := 701) rfl (Ev.pos rfl ?_))
        exact Ev.some _ fun _ => by decide +kernel
  · exact Ev.neg hn (Ev.step (fun k => by rw [wimplelaw7_WireSizes.j0]) (Ev.pos rfl (Ev.now _)))
end Go.Proofs.Ytjklgdpffmaamaa.Pure

namespace Go.Proofs.Ytjklgdpffmaamaa.wireSizes
open Go.ChangeShapes Go.WideShapes Go.ChangeAt Go.RowKit
open Go.ChangeMaps (open_string shut_string)
set_option linter.unusedVariables false
theorem own : ownKnob Try.prog.godebug = none := by kernel_rfl
set_option maxRecDepth 100000 in
theorem lifted (os : Os) (started : os.Started) (H : Type) (enc : TypeId × Value → H) :
    ReturnsInHanded {} Try.checked os 14 .any (Rows.wireSizesSpec.pre6 enc Try.prog Try.f14 Rows.wireSizesRow.domain false) (Rows.wireSizesSpec.post enc Try.prog Try.f14 false true false false) := by
  refine returnsInHanded_of_change_sized (C := Try.checked) own started (by kernel_rfl) Try.func14
    (ChangeSpec.witness6 (enc := enc) (C := Try.checked) false ⟨#[], #[.string ByteArray.empty, .int .i64 0, .int .i64 0], []⟩ 8 (by kernel_rfl) (by kernel_rfl) (by kernel_rfl) (by kernel_rfl)) ?_
  intro W base args ds gs before hval0 hW hcnd hsz0 _
  have hsz : (DataW.weightsEach Try.prog (Try.f14.params.toList ++ Rows.wireSizesSpec.plain.varTypes Try.prog) (ds ++ gs)).all (· ≤ reachBytes) = true := hsz0
  have hval : ∀ (j : Nat) t v, Try.f14.params[j]? = some t → args[j]? = some v → Value.okWide Try.prog W .any base t v := hval0
  have hW' := hW
  obtain ⟨p, q, hA0, hV, rfl, hfz, hnd⟩ := hW
  have hA : DataW.TrodAll enc Try.prog W 0 (fun _ => true) true Try.f14.params.toList args.toList ds p := hA0
  rw [Try.params14] at hA hval hsz
  obtain ⟨v0, vs0, d0, ds0, p0, q0, hargs, rfl, rfl, h0, r0⟩ := trodAll_cons hA
  obtain ⟨v1, vs1, d1, ds1, p1, q1, rfl, rfl, rfl, h1, r1⟩ := trodAll_cons r0
  obtain ⟨v2, vs2, d2, ds2, p2, q2, rfl, rfl, rfl, h2, r2⟩ := trodAll_cons r1
  obtain ⟨rfl, rfl, rfl⟩ := trodAll_nil r2
  obtain rfl : args = #[v0, v1, v2] := by cases args; simp_all
  obtain ⟨rfl, rfl⟩ := trodVars_none hV
  obtain ⟨a0, rfl, rfl, rfl, y0⟩ := open_string Try.underlying9 (hval 0 9 v0 rfl rfl) h0
  have w0 : a0.size ≤ 140737488351232 := by
    have z := sized_string hsz (j := 0) (t := 9) rfl rfl
    rw [Array.length_toList] at z
    exact z
  obtain ⟨a1, rfl, rfl, rfl, w1⟩ := open_int Try.underlying3 (hval 1 3 v1 rfl rfl) h1
  obtain ⟨a2, rfl, rfl, rfl, w2⟩ := open_int Try.underlying3 (hval 2 3 v2 rfl rfl) h2
  clear hA0 hval0 hsz0 hsz
  refine (PWz.wimplelaw7_WireSizes.walk Pure.WireSizes a0 a1 a2 W w0 w1 w2).mono fun e W' ⟨he, bel⟩ => ?_
  subst he
  exact ⟨_, rfl, _, _, _, [], _, [], hW', trodAll_mk1 (shut_bool Try.underlying4 _), (trodAll_cons_mk (shut_string Try.underlying9 y0) (trodAll_cons_mk (shut_int Try.underlying3 w1) (trodAll_cons_mk (shut_int Try.underlying3 w2) trodAll_mk0))), rfl, bel.frame _, fun h => by cases h⟩
theorem over : Rows.wireSizesRow.holds Try.pinned (OpenSpec.ofChange Rows.wireSizesSpec) :=
  OpenClaim.holds_of_wide 14 Try.f14 rfl rfl rfl rfl rfl rfl rfl ⟨rfl, rfl, rfl, rfl, rfl⟩ rfl rfl rfl rfl rfl (by kernel_rfl) Try.func14 (by kernel_rfl)
    (of_decide_eq_true (by kernel_rfl)) (by unfold Func.isWrapper; first | (rw [if_pos (by decide +kernel)]; kernel_rfl) | (rw [if_neg (by decide +kernel)]; exact ⟨rfl, rfl⟩))
    (fun os started H enc _ => lifted os started H enc)
theorem proved : Rows.WireSizesSaid := over
end Go.Proofs.Ytjklgdpffmaamaa.wireSizes
namespace Go.Proofs.Ytjklgdpffmaamaa
/-- The row, under a short name, for the claim. -/
theorem wireSizes_holds : Rows.WireSizesSaid := wireSizes.proved
end Go.Proofs.Ytjklgdpffmaamaa
