/- wire's reader: number, question, record: what each answers, and what it leaves in the reader. -/
import Derived.BigQuiet
import Derived.Lib.QuietBelow
import Derived.Deep.RegionWith
import Derived.Deep.RegionHeld3
import Derived.Deep.CutBlock
import Derived.Test.YtjklgdpffmaamaaProg
import Derived.Below
import Derived.Deep.Draws
import Derived.Deep.AppendLies
import Derived.Maps.AppendAt
import Derived.OwnWalk
import Derived.Laws.BytesArg
import Derived.Laws.MakeOwn
import Derived.Laws.OwnMore
import Derived.Deep.OwnRows
import Derived.Tactics
import Derived.Lib.ConvBytes
import Derived.Laws.Slices
import Derived.WalkKit
import Derived.KernelRfl
import Derived.RowKit3
import Derived.Deep.LoopGhost
import Derived.Deep.QuietTactic
import Derived.WideLaws
import Derived.Deep.DeepCutAuto
import Derived.Laws.Rows
import Derived.Lib.AppendStr
import Derived.ArgAppend
import Derived.Laws.IdiomCopy
import Derived.OrdersHeld
import Derived.Laws.BitsLemmas
import Derived.RowKit
import Derived.Test.YtjklgdpffmaamaaSb1
import Derived.Test.YtjklgdpffmaamaaSb2
namespace Go.Proofs.Ytjklgdpffmaamaa.PCm
open Go.RowKit Go.Proofs.YtjklgdpffmaamaaW.PrintWords Go.Proofs.YtjklgdpffmaamaaW.PrintLast Go.Proofs.YtjklgdpffmaamaaW.PrintMore
attribute [local go_sem] max2_int min2_int max_two min_two max_three min_three max_four min_four   -- for this text's walks alone
set_option linter.unusedVariables false
set_option linter.unusedSimpArgs false

/-! ### rdata_May: function 102 -/
def rdata_May.f (a0 : Int) (a1 : ByteArray) : Option (Bool) := if a1.size ≤ 9223372036854775000 then some (Go.Proofs.Ytjklgdpffmaamaa.Rd.mayD a0 a1) else none
set_option maxHeartbeats 8000000 in
set_option maxRecDepth 100000 in
theorem rdata_May.calls (a0 : Int) (a1 : ByteArray) (r : Bool) (w : World) (h : rdata_May.f a0 a1 = some r) :
    Calls Try.prog 102 #[.int .i64 a0, .string a1] w fun e w' => e = .returned (.bool r) ∧ Below w.heap.size w w' := by
  unfold rdata_May.f at h
  split at h
  · rename_i hs
    simp only [Option.some.injEq] at h
    subst h
    exact Go.Proofs.Ytjklgdpffmaamaa.Rd.dmay a0 a1 w hs
  · cases h

/-! ### comp_shape: function 104 -/
def comp_shape.j0 : Nat → Int → Bool → Option (Int × Int × Int)
  | 0, _, _ => none
  | k + 1, x5, x6 => if x6 = true then (some (0, 1, 0)) else (if x5 = 15 then (some (2, 1, 0)) else (if x5 = 6 then (some (0, 2, 20)) else (some (0, 0, 0))))
def comp_shape.f (k : Nat) (a0 : Int) : Option (Int × Int × Int) := if a0 = 2 then (comp_shape.j0 k a0 (a0 == 2)) else (if a0 = 5 then (comp_shape.j0 k a0 (a0 == 5)) else (comp_shape.j0 k a0 (a0 == 12)))
theorem comp_shape.mono_l : ∀ k, (∀ y0 y1, LeO (comp_shape.j0 k y0 y1) (comp_shape.j0 (k + 1) y0 y1))
  | 0 => fun _ _ r h => by simp [comp_shape.j0] at h
  | k + 1 => by
    have ih0 := comp_shape.mono_l k
    · intro y0 y1
      unfold comp_shape.j0
      repeat' first
      | (with_reducible exact ih0 _ _)
      | (with_reducible exact LeO.refl _)
      | (with_reducible exact LeO.none _)
      | (with_reducible refine LeO.ite ?_ ?_)
      | (with_reducible refine LeO.bind ?_ (fun _ => ?_))
      | exact ih0 _ _
      | exact LeO.none _
      | refine LeO.ite ?_ ?_
      | refine LeO.bind ?_ (fun _ => ?_)
theorem comp_shape.mono : ∀ a0 k, LeO (comp_shape.f k a0) (comp_shape.f (k + 1) a0) := by
  intro a0 k
  have ih0 := comp_shape.mono_l k
  unfold comp_shape.f
  repeat' first
      | (with_reducible exact ih0 _ _)
      | (with_reducible exact LeO.refl _)
      | (with_reducible exact LeO.none _)
      | (with_reducible refine LeO.ite ?_ ?_)
      | (with_reducible refine LeO.bind ?_ (fun _ => ?_))
      | exact ih0 _ _
      | exact LeO.none _
      | refine LeO.ite ?_ ?_
      | refine LeO.bind ?_ (fun _ => ?_)
set_option maxHeartbeats 8000000 in
set_option maxRecDepth 100000 in
theorem comp_shape.calls (k : Nat) (a0 : Int) (r1 : Int) (r2 : Int) (r3 : Int) (w : World) (h : comp_shape.f k a0 = some (r1, r2, r3)) :
    Calls Try.prog 104 #[.int .i64 a0] w fun e w' => e = .returned (.tuple #[.int .i64 r1, .int .i64 r2, .int .i64 r3]) ∧ Drawn0 w w' := by
  have H : (if a0 = 2 then (comp_shape.j0 k a0 (a0 == 2)) else (if a0 = 5 then (comp_shape.j0 k a0 (a0 == 5)) else (comp_shape.j0 k a0 (a0 == 12)))) = some (r1, r2, r3) := h
  clear h
  have HC2 := Aside0.mk H
  clear H
  go_enter Try.func104, Try.ntmps104
  go_upto_if 6 with (fail)
  go_cut [6] (fun v6 wc => ∃ (kq : Nat) (x6_1 : Bool), v6 = .bool x6_1 ∧ Aside0 (comp_shape.j0 kq a0 x6_1 = some (r1, r2, r3)) ∧ Aside0 (kq ≤ k) ∧ Drawn0 w wc)
  case first =>
    have H := HC2.out
    clear HC2
    by_cases c3 : a0 = 2
    · rw [if_pos c3] at H
      have c3b0 : (a0 == 2) = true := beq_iff_eq.mpr c3
      have c3b1 : (a0 != 2) = false := bne_eq_false_iff_eq.mpr c3
      clear c3
      (first | rw [c3b0] | (simp only [i64_w, i32_w]; rw [c3b0]) | skip)
      have H' := Aside0.mk H
      clear H
      go_wp2
      go_meet
      case rel => exact ⟨_, ((a0 == 2)), (by first | rfl | (simp; done) | (simp [*]; done)), H', ⟨by first | omega | exact Nat.le_refl _⟩, by repeat (first | exact Drawn0.refl _ | apply Drawn0.step)⟩
    · rw [if_neg c3] at H
      have c3b0 : (a0 == 2) = false := beq_eq_false_iff_ne.mpr c3
      have c3b1 : (a0 != 2) = true := bne_iff_ne.mpr c3
      (first | rw [c3b0] | (simp only [i64_w, i32_w]; rw [c3b0]) | skip)
      by_cases c4 : a0 = 5
      · rw [if_pos c4] at H
        have c4b0 : (a0 == 5) = true := beq_iff_eq.mpr c4
        have c4b1 : (a0 != 5) = false := bne_eq_false_iff_eq.mpr c4
        clear c4
        have H' := Aside0.mk H
        clear H
        go_wp2
        go_meet
        case rel => exact ⟨_, ((a0 == 5)), (by first | rfl | (simp; done) | (simp [*]; done)), H', ⟨by first | omega | exact Nat.le_refl _⟩, by repeat (first | exact Drawn0.refl _ | apply Drawn0.step)⟩
      · rw [if_neg c4] at H
        have c4b0 : (a0 == 5) = false := beq_eq_false_iff_ne.mpr c4
        have c4b1 : (a0 != 5) = true := bne_iff_ne.mpr c4
        have H' := Aside0.mk H
        clear H
        go_wp2
        go_meet
        case rel => exact ⟨_, ((a0 == 12)), (by first | rfl | (simp; done) | (simp [*]; done)), H', ⟨by first | omega | exact Nat.le_refl _⟩, by repeat (first | exact Drawn0.refl _ | apply Drawn0.step)⟩
  case rest =>
    clear HC2
    try clear c1
    try clear p2
    try clear c3
    try clear c3b0
    try clear c3b1
    try clear c4
    try clear c4b0
    try clear c4b1
    obtain ⟨kq, x6_1, rfl, HA, HJ1, ⟨mc1, rfl⟩⟩ := hcut
    cases kq with
    | zero => exact absurd HA.out (by simp [comp_shape.j0])
    | succ kj1 =>
      have H := HA.out
      clear HA
      simp only [comp_shape.j0] at H
      by_cases c5 : x6_1 = true
      · subst c5
        have H1 : (some (0, 1, 0)) = some (r1, r2, r3) := by rw [if_pos rfl] at H; exact H
        clear H
        have H := H1
        clear H1
        simp only [Option.some.injEq, Prod.mk.injEq] at H
        obtain ⟨rfl, rfl, rfl⟩ := H
        go_wp2
        go_ret3
        exact ⟨by first | rfl | (simp; done) | (simp [*]; done), by repeat (first | exact Drawn0.refl _ | apply Drawn0.step)⟩
      · replace c5 := Bool.eq_false_iff.mpr c5
        subst c5
        have H1 : (if a0 = 15 then (some (2, 1, 0)) else (if a0 = 6 then (some (0, 2, 20)) else (some (0, 0, 0)))) = some (r1, r2, r3) := by rw [if_neg (show ¬ (false = true) by decide)] at H; exact H
        clear H
        have H := H1
        clear H1
        by_cases c6 : a0 = 15
        · rw [if_pos c6] at H
          have c6b0 : (a0 == 15) = true := beq_iff_eq.mpr c6
          have c6b1 : (a0 != 15) = false := bne_eq_false_iff_eq.mpr c6
          clear c6
          simp only [Option.some.injEq, Prod.mk.injEq] at H
          obtain ⟨rfl, rfl, rfl⟩ := H
          go_wp2
          go_ret3
          exact ⟨by first | rfl | (simp; done) | (simp [*]; done), by repeat (first | exact Drawn0.refl _ | apply Drawn0.step)⟩
        · rw [if_neg c6] at H
          have c6b0 : (a0 == 15) = false := beq_eq_false_iff_ne.mpr c6
          have c6b1 : (a0 != 15) = true := bne_iff_ne.mpr c6
          by_cases c7 : a0 = 6
          · rw [if_pos c7] at H
            have c7b0 : (a0 == 6) = true := beq_iff_eq.mpr c7
            have c7b1 : (a0 != 6) = false := bne_eq_false_iff_eq.mpr c7
            clear c7
            simp only [Option.some.injEq, Prod.mk.injEq] at H
            obtain ⟨rfl, rfl, rfl⟩ := H
            go_wp2
            go_ret3
            exact ⟨by first | rfl | (simp; done) | (simp [*]; done), by repeat (first | exact Drawn0.refl _ | apply Drawn0.step)⟩
          · rw [if_neg c7] at H
            have c7b0 : (a0 == 6) = false := beq_eq_false_iff_ne.mpr c7
            have c7b1 : (a0 != 6) = true := bne_iff_ne.mpr c7
            simp only [Option.some.injEq, Prod.mk.injEq] at H
            obtain ⟨rfl, rfl, rfl⟩ := H
            go_wp2
            go_ret3
            exact ⟨by first | rfl | (simp; done) | (simp [*]; done), by repeat (first | exact Drawn0.refl _ | apply Drawn0.step)⟩

/-! ### comp_names: function 105 -/
def comp_names.l0 : Nat → ByteArray → Int → ByteArray → Int → Int → Option (ByteArray × Int × Int)
  | 0, _, _, _, _, _ => none
  | k + 1, x0, x1, x9, x13, x14 => if x14 < x13 then ((comp_Name.f k x0 x1).bind fun bt113 => (if bt113.2.2 = 0 then (if x9.size + bt113.1.size ≤ 9223372036854775807 then (comp_names.l0 k x0 bt113.2.1 (x9 ++ bt113.1) x13 (wrap64 (x14 + 1))) else (none)) else (some ((⟨#[]⟩ : ByteArray), 0, bt113.2.2)))) else (some (x9, x1, 0))
def comp_names.f (k : Nat) (a0 : ByteArray) (a1 : Int) (a2 : Int) : Option (ByteArray × Int × Int) := comp_names.l0 k a0 a1 (⟨#[]⟩ : ByteArray) a2 0
theorem comp_names.mono_l : ∀ k, (∀ y0 y1 y2 y3 y4, LeO (comp_names.l0 k y0 y1 y2 y3 y4) (comp_names.l0 (k + 1) y0 y1 y2 y3 y4))
  | 0 => fun _ _ _ _ _ r h => by simp [comp_names.l0] at h
  | k + 1 => by
    have ih0 := comp_names.mono_l k
    · intro y0 y1 y2 y3 y4
      unfold comp_names.l0
      repeat' first
      | (with_reducible exact ih0 _ _ _ _ _)
      | (with_reducible exact comp_Name.mono _ _ _)
      | (with_reducible exact LeO.refl _)
      | (with_reducible exact LeO.none _)
      | (with_reducible refine LeO.ite ?_ ?_)
      | (with_reducible refine LeO.bind ?_ (fun _ => ?_))
      | exact ih0 _ _ _ _ _
      | exact comp_Name.mono _ _ _
      | exact LeO.none _
      | refine LeO.ite ?_ ?_
      | refine LeO.bind ?_ (fun _ => ?_)
theorem comp_names.mono : ∀ a0 a1 a2 k, LeO (comp_names.f k a0 a1 a2) (comp_names.f (k + 1) a0 a1 a2) := by
  intro a0 a1 a2 k
  have ih0 := comp_names.mono_l k
  unfold comp_names.f
  repeat' first
      | (with_reducible exact ih0 _ _ _ _ _)
      | (with_reducible exact comp_Name.mono _ _ _)
      | (with_reducible exact LeO.refl _)
      | (with_reducible exact LeO.none _)
      | (with_reducible refine LeO.ite ?_ ?_)
      | (with_reducible refine LeO.bind ?_ (fun _ => ?_))
      | exact ih0 _ _ _ _ _
      | exact comp_Name.mono _ _ _
      | exact LeO.none _
      | refine LeO.ite ?_ ?_
      | refine LeO.bind ?_ (fun _ => ?_)
set_option maxHeartbeats 8000000 in
set_option maxRecDepth 100000 in
theorem comp_names.calls (k : Nat) (a0 : ByteArray) (a1 : Int) (a2 : Int) (r1 : ByteArray) (r2 : Int) (r3 : Int) (w : World) (h : comp_names.f k a0 a1 a2 = some (r1, r2, r3)) :
    Calls Try.prog 105 #[.string a0, .int .i64 a1, .int .i64 a2] w fun e w' => e = .returned (.tuple #[.string r1, .int .i64 r2, .int .i64 r3]) ∧ Below w.heap.size w w' := by
  have HB := Aside0.mk (Below.refl w.heap.size w)
  have H : (comp_names.l0 k a0 a1 (⟨#[]⟩ : ByteArray) a2 0) = some (r1, r2, r3) := h
  clear h
  have H' := Aside0.mk H
  clear H
  go_enter Try.func105, Try.ntmps105
  go_wp2
  go_loopg [1, 9, 14] k (fun kq v1 v9 v14 w' => ∃ (x1_1 : Int) (x9_1 : ByteArray) (x14_1 : Int), v1 = .int .i64 x1_1 ∧ v9 = .string x9_1 ∧ v14 = .int .i64 x14_1 ∧ Aside0 (comp_names.l0 kq a0 x1_1 x9_1 a2 x14_1 = some (r1, r2, r3)) ∧ Aside0 (kq ≤ k) ∧ Aside0 (Below w.heap.size w w'))
  case atStart => exact ⟨(a1), ((⟨#[]⟩ : ByteArray)), (0), (by first | rfl | (simp; done) | (simp [*]; done)), (by first | rfl | (simp; done) | (simp [*]; done)), (by first | rfl | (simp; done) | (simp [*]; done)), H', ⟨Nat.le_refl _⟩, ⟨by repeat (first | (with_reducible first | exact HB.out | apply below_alloc | apply pw_below_drewN | apply below_drew1) | exact HB.out)⟩⟩
  case round =>
    clear H'
    try clear c1
    try clear p2
    obtain ⟨x1_1, x9_1, x14_1, rfl, rfl, rfl, HA, HK1, HB⟩ := hrel
    cases gk with
    | zero => exact absurd HA.out (by simp [comp_names.l0])
    | succ k1 =>
      have H := HA.out
      clear HA
      simp only [comp_names.l0] at H
      by_cases c4 : x14_1 < a2
      · rw [if_pos c4] at H
        have c4b0 : decide (x14_1 < a2) = true := decide_eq_true c4
        clear c4
        replace H := Option.bind_eq_some_iff.mp H
        obtain ⟨⟨t113, t114, t115⟩, A50, H⟩ := H
        replace H : (if t115 = 0 then (if x9_1.size + t113.size ≤ 9223372036854775807 then (comp_names.l0 k1 a0 t114 (x9_1 ++ t113) a2 (wrap64 (x14_1 + 1))) else (none)) else (some ((⟨#[]⟩ : ByteArray), 0, t115))) = some (r1, r2, r3) := H
        have A5 := Aside0.mk A50
        clear A50
        by_cases c6 : t115 = 0
        · rw [if_pos c6] at H
          have c6b0 : (t115 == 0) = true := beq_iff_eq.mpr c6
          have c6b1 : (t115 != 0) = false := bne_eq_false_iff_eq.mpr c6
          clear c6
          by_cases c7 : x9_1.size + t113.size ≤ 9223372036854775807
          · rw [if_pos c7] at H
            have c7b0 := eq_true c7
            have c7b1 : decide (x9_1.size + t113.size ≤ 9223372036854775807) = true := decide_eq_true c7
            try have c7b2 : (9223372036854775807 < x9_1.size + t113.size) = False := eq_false (Nat.not_lt.2 c7)
            have H' := Aside0.mk H
            clear H
            go_wp2_with (first | ((with_reducible refine gate_dst (N := 19) rfl ?_); (with_reducible refine gate_callee (f := 94) rfl ?_); refine goesL_ (some 19) rfl rfl Try.func94 (by kernel_rfl) rfl #[.string a0, .int .i64 x1_1] rfl (by (try simp only [List.map_toArray, List.map_cons, List.map_nil]); first | done | rfl | (simp only [List.length_drop, List.length_take]; rfl)) ?_; (with_reducible refine (comp_Name.calls k1 a0 x1_1 t113 t114 t115 _ A5.out).mono ?_); rintro e w8 ⟨rfl, hb⟩; refine ⟨_, rfl, ?_⟩; have n0_ := Aside0.mk (below_step (by repeat (first | (with_reducible first | exact HB.out | apply below_alloc | apply pw_below_drewN | apply below_drew1) | exact HB.out)) hb); clear HB; have HB := n0_; clear n0_; (try clear hb); (try clear hb2); (try clear hk); (try clear hi)))
            go_roundg k1
            case measure => have := HK1.out; omega
            case rel => exact ⟨(t114), (x9_1 ++ t113), (wrap64 (x14_1 + 1)), (by first | rfl | (simp; done) | (simp [*]; done)), (by first | rfl | (simp; done) | (simp [*]; done)), (by first | rfl | (simp; done) | (simp [*]; done)), H', ⟨by have := HK1.out; omega⟩, ⟨by repeat (first | (with_reducible first | exact HB.out | apply below_alloc | apply pw_below_drewN | apply below_drew1) | exact HB.out)⟩⟩
          · rw [if_neg c7] at H
            exact absurd H (by simp)
        · rw [if_neg c6] at H
          have c6b0 : (t115 == 0) = false := beq_eq_false_iff_ne.mpr c6
          have c6b1 : (t115 != 0) = true := bne_iff_ne.mpr c6
          simp only [Option.some.injEq, Prod.mk.injEq] at H
          obtain ⟨rfl, rfl, rfl⟩ := H
          go_wp2_with (first | ((with_reducible refine gate_dst (N := 19) rfl ?_); (with_reducible refine gate_callee (f := 94) rfl ?_); refine goesL_ (some 19) rfl rfl Try.func94 (by kernel_rfl) rfl #[.string a0, .int .i64 x1_1] rfl (by (try simp only [List.map_toArray, List.map_cons, List.map_nil]); first | done | rfl | (simp only [List.length_drop, List.length_take]; rfl)) ?_; (with_reducible refine (comp_Name.calls k1 a0 x1_1 t113 t114 t115 _ A5.out).mono ?_); rintro e w9 ⟨rfl, hb⟩; refine ⟨_, rfl, ?_⟩; have n0_ := Aside0.mk (below_step (by repeat (first | (with_reducible first | exact HB.out | apply below_alloc | apply pw_below_drewN | apply below_drew1) | exact HB.out)) hb); clear HB; have HB := n0_; clear n0_; (try clear hb); (try clear hb2); (try clear hk); (try clear hi)))
          go_ret3
          exact ⟨by first | rfl | (simp [errW_none, errW_some] <;> rfl) | (simp [*, errW_none, errW_some] <;> rfl), by repeat (first | (with_reducible first | exact HB.out | apply below_alloc | apply pw_below_drewN | apply below_drew1) | exact HB.out)⟩
      · rw [if_neg c4] at H
        have c4b0 : decide (x14_1 < a2) = false := decide_eq_false c4
        clear c4
        simp only [Option.some.injEq, Prod.mk.injEq] at H
        obtain ⟨rfl, rfl, rfl⟩ := H
        go_wp2
        go_ret3
        exact ⟨by first | rfl | (simp [errW_none, errW_some] <;> rfl) | (simp [*, errW_none, errW_some] <;> rfl), by repeat (first | (with_reducible first | exact HB.out | apply below_alloc | apply pw_below_drewN | apply below_drew1) | exact HB.out)⟩

/-! ### comp_Data: function 97 -/
mutual
def comp_Data.j0 : Nat → ByteArray → Int → Int → Int → Bool → Option (ByteArray × Int)
  | 0, _, _, _, _, _ => none
  | k + 1, x0, x1, x2, x3, x37 => if x37 = true then (some ((⟨#[]⟩ : ByteArray), 500)) else (if 0 ≤ x1 then (if x1 ≤ (wrap64 (x1 + x2)) then (if (wrap64 (x1 + x2)) ≤ (x0.size : Int) then ((comp_shape.f k x3).bind fun bt116 => (if bt116.2.1 > 0 then (if x2 < (wrap64 (bt116.1 + bt116.2.2)) then (some ((⟨#[]⟩ : ByteArray), 500)) else ((comp_names.f k x0 (wrap64 (x1 + bt116.1)) bt116.2.1).bind fun bt119 => (if bt119.2.2 = 0 then (comp_Data.j1 k x0 x1 x3 (wrap64 (x1 + x2)) bt116.1 bt119.1 bt119.2.1 (bt119.2.1 != (wrap64 ((wrap64 (x1 + x2)) - bt116.2.2)))) else (comp_Data.j1 k x0 x1 x3 (wrap64 (x1 + x2)) bt116.1 bt119.1 bt119.2.1 true)))) else ((rdata_May.f x3 (x0.extract (x1 : Int).toNat ((wrap64 (x1 + x2)) : Int).toNat)).bind fun t123 => (if t123 = true then (some (x0.extract (x1 : Int).toNat ((wrap64 (x1 + x2)) : Int).toNat, 0)) else (some ((⟨#[]⟩ : ByteArray), 500)))))) else (none)) else (none)) else (none))
def comp_Data.j1 : Nat → ByteArray → Int → Int → Int → Int → ByteArray → Int → Bool → Option (ByteArray × Int)
  | 0, _, _, _, _, _, _, _, _ => none
  | k + 1, x0, x1, x3, x10, x12, x15, x16, x76 => if x76 = true then (some ((⟨#[]⟩ : ByteArray), 500)) else (if 0 ≤ x1 then (if x1 ≤ (wrap64 (x1 + x12)) then (if (wrap64 (x1 + x12)) ≤ (x0.size : Int) then (if (x0.extract (x1 : Int).toNat ((wrap64 (x1 + x12)) : Int).toNat).size + x15.size ≤ 9223372036854775807 then (if 0 ≤ x16 then (if x16 ≤ x10 then (if x10 ≤ (x0.size : Int) then (if ((x0.extract (x1 : Int).toNat ((wrap64 (x1 + x12)) : Int).toNat) ++ x15).size + (x0.extract (x16 : Int).toNat (x10 : Int).toNat).size ≤ 9223372036854775807 then ((rdata_May.f x3 (((x0.extract (x1 : Int).toNat ((wrap64 (x1 + x12)) : Int).toNat) ++ x15) ++ (x0.extract (x16 : Int).toNat (x10 : Int).toNat))).bind fun t122 => (if t122 = true then (some (((x0.extract (x1 : Int).toNat ((wrap64 (x1 + x12)) : Int).toNat) ++ x15) ++ (x0.extract (x16 : Int).toNat (x10 : Int).toNat), 0)) else (some ((⟨#[]⟩ : ByteArray), 500)))) else (none)) else (none)) else (none)) else (none)) else (none)) else (none)) else (none)) else (none))
end
def comp_Data.f (k : Nat) (a0 : ByteArray) (a1 : Int) (a2 : Int) (a3 : Int) : Option (ByteArray × Int) := if a1 < 0 then (comp_Data.j0 k a0 a1 a2 a3 true) else (if a2 < 0 then (comp_Data.j0 k a0 a1 a2 a3 true) else (if a1 > (a0.size : Int) then (comp_Data.j0 k a0 a1 a2 a3 true) else (comp_Data.j0 k a0 a1 a2 a3 (decide (a2 > (wrap64 ((a0.size : Int) - a1)))))))
theorem comp_Data.mono_l : ∀ k, (∀ y0 y1 y2 y3 y4, LeO (comp_Data.j0 k y0 y1 y2 y3 y4) (comp_Data.j0 (k + 1) y0 y1 y2 y3 y4)) ∧ (∀ y0 y1 y2 y3 y4 y5 y6 y7, LeO (comp_Data.j1 k y0 y1 y2 y3 y4 y5 y6 y7) (comp_Data.j1 (k + 1) y0 y1 y2 y3 y4 y5 y6 y7))
  | 0 => ⟨fun _ _ _ _ _ r h => by simp [comp_Data.j0] at h, fun _ _ _ _ _ _ _ _ r h => by simp [comp_Data.j1] at h⟩
  | k + 1 => by
    obtain ⟨ih0, ih1⟩ := comp_Data.mono_l k
    refine ⟨?_, ?_⟩
    · intro y0 y1 y2 y3 y4
      unfold comp_Data.j0
      repeat' first
      | (with_reducible exact ih0 _ _ _ _ _)
      | (with_reducible exact ih1 _ _ _ _ _ _ _ _)
      | (with_reducible exact comp_names.mono _ _ _ _)
      | (with_reducible exact comp_shape.mono _ _)
      | (with_reducible exact LeO.refl _)
      | (with_reducible exact LeO.none _)
      | (with_reducible refine LeO.ite ?_ ?_)
      | (with_reducible refine LeO.bind ?_ (fun _ => ?_))
      | exact ih0 _ _ _ _ _
      | exact ih1 _ _ _ _ _ _ _ _
      | exact comp_names.mono _ _ _ _
      | exact comp_shape.mono _ _
      | exact LeO.none _
      | refine LeO.ite ?_ ?_
      | refine LeO.bind ?_ (fun _ => ?_)
    · intro y0 y1 y2 y3 y4 y5 y6 y7
      unfold comp_Data.j1
      repeat' first
      | (with_reducible exact ih0 _ _ _ _ _)
      | (with_reducible exact ih1 _ _ _ _ _ _ _ _)
      | (with_reducible exact comp_names.mono _ _ _ _)
      | (with_reducible exact comp_shape.mono _ _)
      | (with_reducible exact LeO.refl _)
      | (with_reducible exact LeO.none _)
      | (with_reducible refine LeO.ite ?_ ?_)
      | (with_reducible refine LeO.bind ?_ (fun _ => ?_))
      | exact ih0 _ _ _ _ _
      | exact ih1 _ _ _ _ _ _ _ _
      | exact comp_names.mono _ _ _ _
      | exact comp_shape.mono _ _
      | exact LeO.none _
      | refine LeO.ite ?_ ?_
      | refine LeO.bind ?_ (fun _ => ?_)
theorem comp_Data.mono : ∀ a0 a1 a2 a3 k, LeO (comp_Data.f k a0 a1 a2 a3) (comp_Data.f (k + 1) a0 a1 a2 a3) := by
  intro a0 a1 a2 a3 k
  obtain ⟨ih0, ih1⟩ := comp_Data.mono_l k
  unfold comp_Data.f
  repeat' first
      | (with_reducible exact ih0 _ _ _ _ _)
      | (with_reducible exact ih1 _ _ _ _ _ _ _ _)
      | (with_reducible exact comp_names.mono _ _ _ _)
      | (with_reducible exact comp_shape.mono _ _)
      | (with_reducible exact LeO.refl _)
      | (with_reducible exact LeO.none _)
      | (with_reducible refine LeO.ite ?_ ?_)
      | (with_reducible refine LeO.bind ?_ (fun _ => ?_))
      | exact ih0 _ _ _ _ _
      | exact ih1 _ _ _ _ _ _ _ _
      | exact comp_names.mono _ _ _ _
      | exact comp_shape.mono _ _
      | exact LeO.none _
      | refine LeO.ite ?_ ?_
      | refine LeO.bind ?_ (fun _ => ?_)
set_option maxHeartbeats 8000000 in
set_option maxRecDepth 100000 in
theorem comp_Data.calls (k : Nat) (a0 : ByteArray) (a1 : Int) (a2 : Int) (a3 : Int) (r1 : ByteArray) (r2 : Int) (w : World) (h : comp_Data.f k a0 a1 a2 a3 = some (r1, r2)) :
    Calls Try.prog 97 #[.string a0, .int .i64 a1, .int .i64 a2, .int .i64 a3] w fun e w' => e = .returned (.tuple #[.string r1, .int .i64 r2]) ∧ Below w.heap.size w w' := by
  have HB := Aside0.mk (Below.refl w.heap.size w)
  have H : (if a1 < 0 then (comp_Data.j0 k a0 a1 a2 a3 true) else (if a2 < 0 then (comp_Data.j0 k a0 a1 a2 a3 true) else (if a1 > (a0.size : Int) then (comp_Data.j0 k a0 a1 a2 a3 true) else (comp_Data.j0 k a0 a1 a2 a3 (decide (a2 > (wrap64 ((a0.size : Int) - a1)))))))) = some (r1, r2) := h
  clear h
  have HC5 := Aside0.mk H
  clear H
  go_enter Try.func97, Try.ntmps97
  go_upto_region 1 with (fail)
  repeat (go_quiet (fail); go_upto_region 1 with (fail))
  go_cut [37] (fun v37 wc => ∃ (kq : Nat) (x37_4 : Bool), v37 = .bool x37_4 ∧ Aside0 (comp_Data.j0 kq a0 a1 a2 a3 x37_4 = some (r1, r2)) ∧ Aside0 (kq ≤ k) ∧ Aside0 (Below w.heap.size w wc))
  case first =>
    have H := HC5.out
    clear HC5
    by_cases c6 : a1 < 0
    · rw [if_pos c6] at H
      have c6b0 : decide (a1 < 0) = true := decide_eq_true c6
      clear c6
      (first | rw [c6b0] | (simp only [i64_w, i32_w]; rw [c6b0]) | skip)
      have H' := Aside0.mk H
      clear H
      go_wp2
      repeat (go_quiet (fail); try go_wp2)
      go_meet
      case rel => exact ⟨_, (true), (by first | rfl | (simp; done) | (simp [*]; done)), H', ⟨by first | omega | exact Nat.le_refl _⟩, ⟨by repeat (first | (with_reducible first | exact HB.out | apply below_alloc | apply pw_below_drewN | apply below_drew1) | exact HB.out)⟩⟩
    · rw [if_neg c6] at H
      have c6b0 : decide (a1 < 0) = false := decide_eq_false c6
      clear c6
      (first | rw [c6b0] | (simp only [i64_w, i32_w]; rw [c6b0]) | skip)
      by_cases c7 : a2 < 0
      · rw [if_pos c7] at H
        have c7b0 : decide (a2 < 0) = true := decide_eq_true c7
        clear c7
        have H' := Aside0.mk H
        clear H
        go_wp2
        repeat (go_quiet (fail); try go_wp2)
        go_meet
        case rel => exact ⟨_, (true), (by first | rfl | (simp; done) | (simp [*]; done)), H', ⟨by first | omega | exact Nat.le_refl _⟩, ⟨by repeat (first | (with_reducible first | exact HB.out | apply below_alloc | apply pw_below_drewN | apply below_drew1) | exact HB.out)⟩⟩
      · rw [if_neg c7] at H
        have c7b0 : decide (a2 < 0) = false := decide_eq_false c7
        clear c7
        by_cases c8 : a1 > (a0.size : Int)
        · rw [if_pos c8] at H
          have c8b0 : decide ((a0.size : Int) < a1) = true := decide_eq_true c8
          clear c8
          have H' := Aside0.mk H
          clear H
          go_wp2
          repeat (go_quiet (fail); try go_wp2)
          go_meet
          case rel => exact ⟨_, (true), (by first | rfl | (simp; done) | (simp [*]; done)), H', ⟨by first | omega | exact Nat.le_refl _⟩, ⟨by repeat (first | (with_reducible first | exact HB.out | apply below_alloc | apply pw_below_drewN | apply below_drew1) | exact HB.out)⟩⟩
        · rw [if_neg c8] at H
          have c8b0 : decide ((a0.size : Int) < a1) = false := decide_eq_false c8
          clear c8
          have H' := Aside0.mk H
          clear H
          go_wp2
          repeat (go_quiet (fail); try go_wp2)
          go_meet
          case rel => exact ⟨_, (decide (a2 > (wrap64 ((a0.size : Int) - a1)))), (by first | rfl | (simp; done) | (simp [*]; done)), H', ⟨by first | omega | exact Nat.le_refl _⟩, ⟨by repeat (first | (with_reducible first | exact HB.out | apply below_alloc | apply pw_below_drewN | apply below_drew1) | exact HB.out)⟩⟩
  case rest =>
    clear HC5
    try clear p2
    try clear c6
    try clear c6b0
    try clear p6
    try clear c7
    try clear c7b0
    try clear c8
    try clear c8b0
    obtain ⟨kq, x37_4, rfl, HA, HJ4, HB⟩ := hcut
    cases kq with
    | zero => exact absurd HA.out (by simp [comp_Data.j0])
    | succ kj4 =>
      have H := HA.out
      clear HA
      simp only [comp_Data.j0] at H
      by_cases c9 : x37_4 = true
      · subst c9
        have H1 : (some ((⟨#[]⟩ : ByteArray), 500)) = some (r1, r2) := by rw [if_pos rfl] at H; exact H
        clear H
        have H := H1
        clear H1
        simp only [Option.some.injEq, Prod.mk.injEq] at H
        obtain ⟨rfl, rfl⟩ := H
        go_wp2
        repeat (go_quiet (fail); try go_wp2)
        go_ret2
        exact ⟨by first | rfl | (simp [errW_none, errW_some] <;> rfl) | (simp [*, errW_none, errW_some] <;> rfl), by repeat (first | (with_reducible first | exact HB.out | apply below_alloc | apply pw_below_drewN | apply below_drew1) | exact HB.out)⟩
      · replace c9 := Bool.eq_false_iff.mpr c9
        subst c9
        have H1 : (if 0 ≤ a1 then (if a1 ≤ (wrap64 (a1 + a2)) then (if (wrap64 (a1 + a2)) ≤ (a0.size : Int) then ((comp_shape.f kj4 a3).bind fun bt116 => (if bt116.2.1 > 0 then (if a2 < (wrap64 (bt116.1 + bt116.2.2)) then (some ((⟨#[]⟩ : ByteArray), 500)) else ((comp_names.f kj4 a0 (wrap64 (a1 + bt116.1)) bt116.2.1).bind fun bt119 => (if bt119.2.2 = 0 then (comp_Data.j1 kj4 a0 a1 a3 (wrap64 (a1 + a2)) bt116.1 bt119.1 bt119.2.1 (bt119.2.1 != (wrap64 ((wrap64 (a1 + a2)) - bt116.2.2)))) else (comp_Data.j1 kj4 a0 a1 a3 (wrap64 (a1 + a2)) bt116.1 bt119.1 bt119.2.1 true)))) else ((rdata_May.f a3 (a0.extract (a1 : Int).toNat ((wrap64 (a1 + a2)) : Int).toNat)).bind fun t123 => (if t123 = true then (some (a0.extract (a1 : Int).toNat ((wrap64 (a1 + a2)) : Int).toNat, 0)) else (some ((⟨#[]⟩ : ByteArray), 500)))))) else (none)) else (none)) else (none)) = some (r1, r2) := by rw [if_neg (show ¬ (false = true) by decide)] at H; exact H
        clear H
        have H := H1
        clear H1
        by_cases c10 : 0 ≤ a1
        · rw [if_pos c10] at H
          have c10b0 := eq_true c10
          have c10b1 : decide (0 ≤ a1) = true := decide_eq_true c10
          clear c10
          by_cases c11 : a1 ≤ (wrap64 (a1 + a2))
          · rw [if_pos c11] at H
            have c11b0 := eq_true c11
            have c11b1 : decide (a1 ≤ (wrap64 (a1 + a2))) = true := decide_eq_true c11
            by_cases c12 : (wrap64 (a1 + a2)) ≤ (a0.size : Int)
            · rw [if_pos c12] at H
              have c12b0 := eq_true c12
              have c12b1 : decide ((wrap64 (a1 + a2)) ≤ (a0.size : Int)) = true := decide_eq_true c12
              replace H := Option.bind_eq_some_iff.mp H
              obtain ⟨⟨t116, t117, t118⟩, A130, H⟩ := H
              replace H : (if t117 > 0 then (if a2 < (wrap64 (t116 + t118)) then (some ((⟨#[]⟩ : ByteArray), 500)) else ((comp_names.f kj4 a0 (wrap64 (a1 + t116)) t117).bind fun bt119 => (if bt119.2.2 = 0 then (comp_Data.j1 kj4 a0 a1 a3 (wrap64 (a1 + a2)) t116 bt119.1 bt119.2.1 (bt119.2.1 != (wrap64 ((wrap64 (a1 + a2)) - t118)))) else (comp_Data.j1 kj4 a0 a1 a3 (wrap64 (a1 + a2)) t116 bt119.1 bt119.2.1 true)))) else ((rdata_May.f a3 (a0.extract (a1 : Int).toNat ((wrap64 (a1 + a2)) : Int).toNat)).bind fun t123 => (if t123 = true then (some (a0.extract (a1 : Int).toNat ((wrap64 (a1 + a2)) : Int).toNat, 0)) else (some ((⟨#[]⟩ : ByteArray), 500))))) = some (r1, r2) := H
              have A13 := Aside0.mk A130
              clear A130
              by_cases c14 : t117 > 0
              · rw [if_pos c14] at H
                have c14b0 : decide (0 < t117) = true := decide_eq_true c14
                clear c14
                by_cases c15 : a2 < (wrap64 (t116 + t118))
                · rw [if_pos c15] at H
                  have c15b0 : decide (a2 < (wrap64 (t116 + t118))) = true := decide_eq_true c15
                  clear c15
                  simp only [Option.some.injEq, Prod.mk.injEq] at H
                  obtain ⟨rfl, rfl⟩ := H
                  go_wp2_with (first | (go_at_call 104; (with_reducible refine (comp_shape.calls kj4 a3 t116 t117 t118 _ A13.out).mono ?_); rintro e w' ⟨rfl, ⟨nd, rfl⟩⟩; (try first | exact ⟨rfl, _, World.drewN_drewN _ _ _⟩ | exact ⟨rfl, _, Eq.trans (World.drewN_drewN _ _ _) (congrArg (World.drewN _) (Nat.add_assoc _ _ _))⟩)))
                  repeat (go_quiet (first | (go_at_call 104; (with_reducible refine (comp_shape.calls kj4 a3 t116 t117 t118 _ A13.out).mono ?_); rintro e w' ⟨rfl, ⟨nd, rfl⟩⟩; (try first | exact ⟨rfl, _, World.drewN_drewN _ _ _⟩ | exact ⟨rfl, _, Eq.trans (World.drewN_drewN _ _ _) (congrArg (World.drewN _) (Nat.add_assoc _ _ _))⟩))); try go_wp2_with (first | (go_at_call 104; (with_reducible refine (comp_shape.calls kj4 a3 t116 t117 t118 _ A13.out).mono ?_); rintro e w' ⟨rfl, ⟨nd, rfl⟩⟩; (try first | exact ⟨rfl, _, World.drewN_drewN _ _ _⟩ | exact ⟨rfl, _, Eq.trans (World.drewN_drewN _ _ _) (congrArg (World.drewN _) (Nat.add_assoc _ _ _))⟩))))
                  go_ret2
                  exact ⟨by first | rfl | (simp [errW_none, errW_some] <;> rfl) | (simp [*, errW_none, errW_some] <;> rfl), by repeat (first | (with_reducible first | exact HB.out | apply below_alloc | apply pw_below_drewN | apply below_drew1) | exact HB.out)⟩
                · rw [if_neg c15] at H
                  have c15b0 : decide (a2 < (wrap64 (t116 + t118))) = false := decide_eq_false c15
                  clear c15
                  replace H := Option.bind_eq_some_iff.mp H
                  obtain ⟨⟨t119, t120, t121⟩, A160, H⟩ := H
                  replace H : (if t121 = 0 then (comp_Data.j1 kj4 a0 a1 a3 (wrap64 (a1 + a2)) t116 t119 t120 (t120 != (wrap64 ((wrap64 (a1 + a2)) - t118)))) else (comp_Data.j1 kj4 a0 a1 a3 (wrap64 (a1 + a2)) t116 t119 t120 true)) = some (r1, r2) := H
                  have A16 := Aside0.mk A160
                  clear A160
                  have HC17 := Aside0.mk H
                  clear H
                  go_upto_region 10 with (first | (go_at_call 104; (with_reducible refine (comp_shape.calls kj4 a3 t116 t117 t118 _ A13.out).mono ?_); rintro e w' ⟨rfl, ⟨nd, rfl⟩⟩; (try first | exact ⟨rfl, _, World.drewN_drewN _ _ _⟩ | exact ⟨rfl, _, Eq.trans (World.drewN_drewN _ _ _) (congrArg (World.drewN _) (Nat.add_assoc _ _ _))⟩)) | (go_at_call 105; (with_reducible refine (comp_names.calls kj4 a0 (wrap64 (a1 + t116)) t117 t119 t120 t121 _ A16.out).mono ?_); rintro e w18 ⟨rfl, hb⟩; have n0_ := Aside0.mk (below_step (by repeat (first | (with_reducible first | exact HB.out | apply below_alloc | apply pw_below_drewN | apply below_drew1) | exact HB.out)) hb); clear HB; have HB := n0_; clear n0_; (try clear hb); (try clear hb2); (try clear hk); (try clear hi)))
                  repeat (go_quiet (first | (go_at_call 104; (with_reducible refine (comp_shape.calls kj4 a3 t116 t117 t118 _ A13.out).mono ?_); rintro e w' ⟨rfl, ⟨nd, rfl⟩⟩; (try first | exact ⟨rfl, _, World.drewN_drewN _ _ _⟩ | exact ⟨rfl, _, Eq.trans (World.drewN_drewN _ _ _) (congrArg (World.drewN _) (Nat.add_assoc _ _ _))⟩)) | (go_at_call 105; (with_reducible refine (comp_names.calls kj4 a0 (wrap64 (a1 + t116)) t117 t119 t120 t121 _ A16.out).mono ?_); rintro e w18 ⟨rfl, hb⟩; have n0_ := Aside0.mk (below_step (by repeat (first | (with_reducible first | exact HB.out | apply below_alloc | apply pw_below_drewN | apply below_drew1) | exact HB.out)) hb); clear HB; have HB := n0_; clear n0_; (try clear hb); (try clear hb2); (try clear hk); (try clear hi))); go_upto_region 10 with (first | (go_at_call 104; (with_reducible refine (comp_shape.calls kj4 a3 t116 t117 t118 _ A13.out).mono ?_); rintro e w' ⟨rfl, ⟨nd, rfl⟩⟩; (try first | exact ⟨rfl, _, World.drewN_drewN _ _ _⟩ | exact ⟨rfl, _, Eq.trans (World.drewN_drewN _ _ _) (congrArg (World.drewN _) (Nat.add_assoc _ _ _))⟩)) | (go_at_call 105; (with_reducible refine (comp_names.calls kj4 a0 (wrap64 (a1 + t116)) t117 t119 t120 t121 _ A16.out).mono ?_); rintro e w18 ⟨rfl, hb⟩; have n0_ := Aside0.mk (below_step (by repeat (first | (with_reducible first | exact HB.out | apply below_alloc | apply pw_below_drewN | apply below_drew1) | exact HB.out)) hb); clear HB; have HB := n0_; clear n0_; (try clear hb); (try clear hb2); (try clear hk); (try clear hi))))
                  (try simp only [Act.put, List.setIfInBounds_toArray, List.set_cons_zero, List.set_cons_succ])
                  go_cut [76] (fun v76 wc => ∃ (kq : Nat) (x76_16 : Bool), v76 = .bool x76_16 ∧ Aside0 (comp_Data.j1 kq a0 a1 a3 (wrap64 (a1 + a2)) t116 t119 t120 x76_16 = some (r1, r2)) ∧ Aside0 (kq ≤ kj4) ∧ Aside0 (Below w.heap.size w wc))
                  case first =>
                    have H := HC17.out
                    clear HC17
                    by_cases c19 : t121 = 0
                    · rw [if_pos c19] at H
                      have c19b0 : (t121 == 0) = true := beq_iff_eq.mpr c19
                      have c19b1 : (t121 != 0) = false := bne_eq_false_iff_eq.mpr c19
                      clear c19
                      (first | rw [c19b0] | (simp only [i64_w, i32_w]; rw [c19b0]) | skip)
                      have H' := Aside0.mk H
                      clear H
                      go_wp2
                      repeat (go_quiet (fail); try go_wp2)
                      go_meet
                      case rel => exact ⟨_, ((t120 != (wrap64 ((wrap64 (a1 + a2)) - t118)))), (by first | rfl | (simp; done) | (simp [*]; done)), H', ⟨by have := HJ4.out; first | omega | exact Nat.le_refl _⟩, ⟨by repeat (first | (with_reducible first | exact HB.out | apply below_alloc | apply pw_below_drewN | apply below_drew1) | exact HB.out)⟩⟩
                    · rw [if_neg c19] at H
                      have c19b0 : (t121 == 0) = false := beq_eq_false_iff_ne.mpr c19
                      have c19b1 : (t121 != 0) = true := bne_iff_ne.mpr c19
                      (first | rw [c19b0] | (simp only [i64_w, i32_w]; rw [c19b0]) | skip)
                      have H' := Aside0.mk H
                      clear H
                      go_wp2
                      repeat (go_quiet (fail); try go_wp2)
                      go_meet
                      case rel => exact ⟨_, (true), (by first | rfl | (simp; done) | (simp [*]; done)), H', ⟨by have := HJ4.out; first | omega | exact Nat.le_refl _⟩, ⟨by repeat (first | (with_reducible first | exact HB.out | apply below_alloc | apply pw_below_drewN | apply below_drew1) | exact HB.out)⟩⟩
                  case rest =>
                    clear HC17
                    try clear c1
                    try clear p2
                    try clear c6
                    try clear c6b0
                    try clear p6
                    try clear c7
                    try clear c7b0
                    try clear c8
                    try clear c8b0
                    try clear c9
                    try clear c10
                    try clear c10b0
                    try clear c10b1
                    try clear c11
                    try clear c11b0
                    try clear c11b1
                    try clear c12
                    try clear c12b0
                    try clear c12b1
                    try clear c14
                    try clear c14b0
                    try clear c15
                    try clear c15b0
                    try clear c19
                    try clear c19b0
                    try clear c19b1
                    try clear p2
                    try clear p6
                    obtain ⟨kq, x76_16, rfl, HA, HJ16, HB⟩ := hcut
                    cases kq with
                    | zero => exact absurd HA.out (by simp [comp_Data.j1])
                    | succ kj16 =>
                      have H := HA.out
                      clear HA
                      simp only [comp_Data.j1] at H
                      by_cases c20 : x76_16 = true
                      · subst c20
                        have H1 : (some ((⟨#[]⟩ : ByteArray), 500)) = some (r1, r2) := by rw [if_pos rfl] at H; exact H
                        clear H
                        have H := H1
                        clear H1
                        simp only [Option.some.injEq, Prod.mk.injEq] at H
                        obtain ⟨rfl, rfl⟩ := H
                        go_wp2
                        repeat (go_quiet (fail); try go_wp2)
                        go_ret2
                        exact ⟨by first | rfl | (simp [errW_none, errW_some] <;> rfl) | (simp [*, errW_none, errW_some] <;> rfl), by repeat (first | (with_reducible first | exact HB.out | apply below_alloc | apply pw_below_drewN | apply below_drew1) | exact HB.out)⟩
                      · replace c20 := Bool.eq_false_iff.mpr c20
                        subst c20
                        have H1 : (if 0 ≤ a1 then (if a1 ≤ (wrap64 (a1 + t116)) then (if (wrap64 (a1 + t116)) ≤ (a0.size : Int) then (if (a0.extract (a1 : Int).toNat ((wrap64 (a1 + t116)) : Int).toNat).size + t119.size ≤ 9223372036854775807 then (if 0 ≤ t120 then (if t120 ≤ (wrap64 (a1 + a2)) then (if (wrap64 (a1 + a2)) ≤ (a0.size : Int) then (if ((a0.extract (a1 : Int).toNat ((wrap64 (a1 + t116)) : Int).toNat) ++ t119).size + (a0.extract (t120 : Int).toNat ((wrap64 (a1 + a2)) : Int).toNat).size ≤ 9223372036854775807 then ((rdata_May.f a3 (((a0.extract (a1 : Int).toNat ((wrap64 (a1 + t116)) : Int).toNat) ++ t119) ++ (a0.extract (t120 : Int).toNat ((wrap64 (a1 + a2)) : Int).toNat))).bind fun t122 => (if t122 = true then (some (((a0.extract (a1 : Int).toNat ((wrap64 (a1 + t116)) : Int).toNat) ++ t119) ++ (a0.extract (t120 : Int).toNat ((wrap64 (a1 + a2)) : Int).toNat), 0)) else (some ((⟨#[]⟩ : ByteArray), 500)))) else (none)) else (none)) else (none)) else (none)) else (none)) else (none)) else (none)) else (none)) = some (r1, r2) := by rw [if_neg (show ¬ (false = true) by decide)] at H; exact H
                        clear H
                        have H := H1
                        clear H1
                        by_cases c21 : 0 ≤ a1
                        · rw [if_pos c21] at H
                          have c21b0 := eq_true c21
                          have c21b1 : decide (0 ≤ a1) = true := decide_eq_true c21
                          clear c21
                          by_cases c22 : a1 ≤ (wrap64 (a1 + t116))
                          · rw [if_pos c22] at H
                            have c22b0 := eq_true c22
                            have c22b1 : decide (a1 ≤ (wrap64 (a1 + t116))) = true := decide_eq_true c22
                            by_cases c23 : (wrap64 (a1 + t116)) ≤ (a0.size : Int)
                            · rw [if_pos c23] at H
                              have c23b0 := eq_true c23
                              have c23b1 : decide ((wrap64 (a1 + t116)) ≤ (a0.size : Int)) = true := decide_eq_true c23
                              by_cases c24 : (a0.extract (a1 : Int).toNat ((wrap64 (a1 + t116)) : Int).toNat).size + t119.size ≤ 9223372036854775807
                              · rw [if_pos c24] at H
                                have c24b0 := eq_true c24
                                have c24b1 : decide ((a0.extract (a1 : Int).toNat ((wrap64 (a1 + t116)) : Int).toNat).size + t119.size ≤ 9223372036854775807) = true := decide_eq_true c24
                                try have c24b2 : (9223372036854775807 < (a0.extract (a1 : Int).toNat ((wrap64 (a1 + t116)) : Int).toNat).size + t119.size) = False := eq_false (Nat.not_lt.2 c24)
                                by_cases c25 : 0 ≤ t120
                                · rw [if_pos c25] at H
                                  have c25b0 := eq_true c25
                                  have c25b1 : decide (0 ≤ t120) = true := decide_eq_true c25
                                  clear c25
                                  by_cases c26 : t120 ≤ (wrap64 (a1 + a2))
                                  · rw [if_pos c26] at H
                                    have c26b0 := eq_true c26
                                    have c26b1 : decide (t120 ≤ (wrap64 (a1 + a2))) = true := decide_eq_true c26
                                    by_cases c27 : (wrap64 (a1 + a2)) ≤ (a0.size : Int)
                                    · rw [if_pos c27] at H
                                      have c27b0 := eq_true c27
                                      have c27b1 : decide ((wrap64 (a1 + a2)) ≤ (a0.size : Int)) = true := decide_eq_true c27
                                      by_cases c28 : ((a0.extract (a1 : Int).toNat ((wrap64 (a1 + t116)) : Int).toNat) ++ t119).size + (a0.extract (t120 : Int).toNat ((wrap64 (a1 + a2)) : Int).toNat).size ≤ 9223372036854775807
                                      · rw [if_pos c28] at H
                                        have c28b0 := eq_true c28
                                        have c28b1 : decide (((a0.extract (a1 : Int).toNat ((wrap64 (a1 + t116)) : Int).toNat) ++ t119).size + (a0.extract (t120 : Int).toNat ((wrap64 (a1 + a2)) : Int).toNat).size ≤ 9223372036854775807) = true := decide_eq_true c28
                                        try have c28b2 : (9223372036854775807 < ((a0.extract (a1 : Int).toNat ((wrap64 (a1 + t116)) : Int).toNat) ++ t119).size + (a0.extract (t120 : Int).toNat ((wrap64 (a1 + a2)) : Int).toNat).size) = False := eq_false (Nat.not_lt.2 c28)
                                        try (have c28b3 := c28; simp only [ByteArray.size_append] at c28b3; replace c28b3 := eq_false (Nat.not_lt.2 c28b3))
                                        replace H := Option.bind_eq_some_iff.mp H
                                        obtain ⟨t122, A290, H⟩ := H
                                        replace H : (if t122 = true then (some (((a0.extract (a1 : Int).toNat ((wrap64 (a1 + t116)) : Int).toNat) ++ t119) ++ (a0.extract (t120 : Int).toNat ((wrap64 (a1 + a2)) : Int).toNat), 0)) else (some ((⟨#[]⟩ : ByteArray), 500))) = some (r1, r2) := H
                                        have A29 := Aside0.mk A290
                                        clear A290
                                        by_cases c30 : t122 = true
                                        · subst c30
                                          have H1 : (some (((a0.extract (a1 : Int).toNat ((wrap64 (a1 + t116)) : Int).toNat) ++ t119) ++ (a0.extract (t120 : Int).toNat ((wrap64 (a1 + a2)) : Int).toNat), 0)) = some (r1, r2) := by rw [if_pos rfl] at H; exact H
                                          clear H
                                          have H := H1
                                          clear H1
                                          simp only [Option.some.injEq, Prod.mk.injEq] at H
                                          obtain ⟨rfl, rfl⟩ := H
                                          go_wp2_with (first | (go_at_call 102; (with_reducible refine (rdata_May.calls a3 (((a0.extract (a1 : Int).toNat ((wrap64 (a1 + t116)) : Int).toNat) ++ t119) ++ (a0.extract (t120 : Int).toNat ((wrap64 (a1 + a2)) : Int).toNat)) true _ A29.out).mono ?_); rintro e w31 ⟨rfl, hb⟩; have n0_ := Aside0.mk (below_step (by repeat (first | (with_reducible first | exact HB.out | apply below_alloc | apply pw_below_drewN | apply below_drew1) | exact HB.out)) hb); clear HB; have HB := n0_; clear n0_; (try clear hb); (try clear hb2); (try clear hk); (try clear hi)))
                                          repeat (go_quiet (first | (go_at_call 102; (with_reducible refine (rdata_May.calls a3 (((a0.extract (a1 : Int).toNat ((wrap64 (a1 + t116)) : Int).toNat) ++ t119) ++ (a0.extract (t120 : Int).toNat ((wrap64 (a1 + a2)) : Int).toNat)) true _ A29.out).mono ?_); rintro e w31 ⟨rfl, hb⟩; have n0_ := Aside0.mk (below_step (by repeat (first | (with_reducible first | exact HB.out | apply below_alloc | apply pw_below_drewN | apply below_drew1) | exact HB.out)) hb); clear HB; have HB := n0_; clear n0_; (try clear hb); (try clear hb2); (try clear hk); (try clear hi))); try go_wp2_with (first | (go_at_call 102; (with_reducible refine (rdata_May.calls a3 (((a0.extract (a1 : Int).toNat ((wrap64 (a1 + t116)) : Int).toNat) ++ t119) ++ (a0.extract (t120 : Int).toNat ((wrap64 (a1 + a2)) : Int).toNat)) true _ A29.out).mono ?_); rintro e w31 ⟨rfl, hb⟩; have n0_ := Aside0.mk (below_step (by repeat (first | (with_reducible first | exact HB.out | apply below_alloc | apply pw_below_drewN | apply below_drew1) | exact HB.out)) hb); clear HB; have HB := n0_; clear n0_; (try clear hb); (try clear hb2); (try clear hk); (try clear hi))))
                                          go_ret2
                                          exact ⟨by first | rfl | (simp [errW_none, errW_some] <;> rfl) | (simp [*, errW_none, errW_some] <;> rfl), by repeat (first | (with_reducible first | exact HB.out | apply below_alloc | apply pw_below_drewN | apply below_drew1) | exact HB.out)⟩
                                        · replace c30 := Bool.eq_false_iff.mpr c30
                                          subst c30
                                          have H1 : (some ((⟨#[]⟩ : ByteArray), 500)) = some (r1, r2) := by rw [if_neg (show ¬ (false = true) by decide)] at H; exact H
                                          clear H
                                          have H := H1
                                          clear H1
                                          simp only [Option.some.injEq, Prod.mk.injEq] at H
                                          obtain ⟨rfl, rfl⟩ := H
                                          go_wp2_with (first | (go_at_call 102; (with_reducible refine (rdata_May.calls a3 (((a0.extract (a1 : Int).toNat ((wrap64 (a1 + t116)) : Int).toNat) ++ t119) ++ (a0.extract (t120 : Int).toNat ((wrap64 (a1 + a2)) : Int).toNat)) false _ A29.out).mono ?_); rintro e w32 ⟨rfl, hb⟩; have n0_ := Aside0.mk (below_step (by repeat (first | (with_reducible first | exact HB.out | apply below_alloc | apply pw_below_drewN | apply below_drew1) | exact HB.out)) hb); clear HB; have HB := n0_; clear n0_; (try clear hb); (try clear hb2); (try clear hk); (try clear hi)))
                                          repeat (go_quiet (first | (go_at_call 102; (with_reducible refine (rdata_May.calls a3 (((a0.extract (a1 : Int).toNat ((wrap64 (a1 + t116)) : Int).toNat) ++ t119) ++ (a0.extract (t120 : Int).toNat ((wrap64 (a1 + a2)) : Int).toNat)) false _ A29.out).mono ?_); rintro e w32 ⟨rfl, hb⟩; have n0_ := Aside0.mk (below_step (by repeat (first | (with_reducible first | exact HB.out | apply below_alloc | apply pw_below_drewN | apply below_drew1) | exact HB.out)) hb); clear HB; have HB := n0_; clear n0_; (try clear hb); (try clear hb2); (try clear hk); (try clear hi))); try go_wp2_with (first | (go_at_call 102; (with_reducible refine (rdata_May.calls a3 (((a0.extract (a1 : Int).toNat ((wrap64 (a1 + t116)) : Int).toNat) ++ t119) ++ (a0.extract (t120 : Int).toNat ((wrap64 (a1 + a2)) : Int).toNat)) false _ A29.out).mono ?_); rintro e w32 ⟨rfl, hb⟩; have n0_ := Aside0.mk (below_step (by repeat (first | (with_reducible first | exact HB.out | apply below_alloc | apply pw_below_drewN | apply below_drew1) | exact HB.out)) hb); clear HB; have HB := n0_; clear n0_; (try clear hb); (try clear hb2); (try clear hk); (try clear hi))))
                                          go_ret2
                                          exact ⟨by first | rfl | (simp [errW_none, errW_some] <;> rfl) | (simp [*, errW_none, errW_some] <;> rfl), by repeat (first | (with_reducible first | exact HB.out | apply below_alloc | apply pw_below_drewN | apply below_drew1) | exact HB.out)⟩
                                      · rw [if_neg c28] at H
                                        exact absurd H (by simp)
                                    · rw [if_neg c27] at H
                                      exact absurd H (by simp)
                                  · rw [if_neg c26] at H
                                    exact absurd H (by simp)
                                · rw [if_neg c25] at H
                                  exact absurd H (by simp)
                              · rw [if_neg c24] at H
                                exact absurd H (by simp)
                            · rw [if_neg c23] at H
                              exact absurd H (by simp)
                          · rw [if_neg c22] at H
                            exact absurd H (by simp)
                        · rw [if_neg c21] at H
                          exact absurd H (by simp)
              · rw [if_neg c14] at H
                have c14b0 : decide (0 < t117) = false := decide_eq_false c14
                clear c14
                replace H := Option.bind_eq_some_iff.mp H
                obtain ⟨t123, A330, H⟩ := H
                replace H : (if t123 = true then (some (a0.extract (a1 : Int).toNat ((wrap64 (a1 + a2)) : Int).toNat, 0)) else (some ((⟨#[]⟩ : ByteArray), 500))) = some (r1, r2) := H
                have A33 := Aside0.mk A330
                clear A330
                by_cases c34 : t123 = true
                · subst c34
                  have H1 : (some (a0.extract (a1 : Int).toNat ((wrap64 (a1 + a2)) : Int).toNat, 0)) = some (r1, r2) := by rw [if_pos rfl] at H; exact H
                  clear H
                  have H := H1
                  clear H1
                  simp only [Option.some.injEq, Prod.mk.injEq] at H
                  obtain ⟨rfl, rfl⟩ := H
                  go_wp2_with (first | (go_at_call 104; (with_reducible refine (comp_shape.calls kj4 a3 t116 t117 t118 _ A13.out).mono ?_); rintro e w' ⟨rfl, ⟨nd, rfl⟩⟩; (try first | exact ⟨rfl, _, World.drewN_drewN _ _ _⟩ | exact ⟨rfl, _, Eq.trans (World.drewN_drewN _ _ _) (congrArg (World.drewN _) (Nat.add_assoc _ _ _))⟩)) | (go_at_call 102; (with_reducible refine (rdata_May.calls a3 (a0.extract (a1 : Int).toNat ((wrap64 (a1 + a2)) : Int).toNat) true _ A33.out).mono ?_); rintro e w35 ⟨rfl, hb⟩; have n0_ := Aside0.mk (below_step (by repeat (first | (with_reducible first | exact HB.out | apply below_alloc | apply pw_below_drewN | apply below_drew1) | exact HB.out)) hb); clear HB; have HB := n0_; clear n0_; (try clear hb); (try clear hb2); (try clear hk); (try clear hi)))
                  repeat (go_quiet (first | (go_at_call 104; (with_reducible refine (comp_shape.calls kj4 a3 t116 t117 t118 _ A13.out).mono ?_); rintro e w' ⟨rfl, ⟨nd, rfl⟩⟩; (try first | exact ⟨rfl, _, World.drewN_drewN _ _ _⟩ | exact ⟨rfl, _, Eq.trans (World.drewN_drewN _ _ _) (congrArg (World.drewN _) (Nat.add_assoc _ _ _))⟩)) | (go_at_call 102; (with_reducible refine (rdata_May.calls a3 (a0.extract (a1 : Int).toNat ((wrap64 (a1 + a2)) : Int).toNat) true _ A33.out).mono ?_); rintro e w35 ⟨rfl, hb⟩; have n0_ := Aside0.mk (below_step (by repeat (first | (with_reducible first | exact HB.out | apply below_alloc | apply pw_below_drewN | apply below_drew1) | exact HB.out)) hb); clear HB; have HB := n0_; clear n0_; (try clear hb); (try clear hb2); (try clear hk); (try clear hi))); try go_wp2_with (first | (go_at_call 104; (with_reducible refine (comp_shape.calls kj4 a3 t116 t117 t118 _ A13.out).mono ?_); rintro e w' ⟨rfl, ⟨nd, rfl⟩⟩; (try first | exact ⟨rfl, _, World.drewN_drewN _ _ _⟩ | exact ⟨rfl, _, Eq.trans (World.drewN_drewN _ _ _) (congrArg (World.drewN _) (Nat.add_assoc _ _ _))⟩)) | (go_at_call 102; (with_reducible refine (rdata_May.calls a3 (a0.extract (a1 : Int).toNat ((wrap64 (a1 + a2)) : Int).toNat) true _ A33.out).mono ?_); rintro e w35 ⟨rfl, hb⟩; have n0_ := Aside0.mk (below_step (by repeat (first | (with_reducible first | exact HB.out | apply below_alloc | apply pw_below_drewN | apply below_drew1) | exact HB.out)) hb); clear HB; have HB := n0_; clear n0_; (try clear hb); (try clear hb2); (try clear hk); (try clear hi))))
                  go_ret2
                  exact ⟨by first | rfl | (simp [errW_none, errW_some] <;> rfl) | (simp [*, errW_none, errW_some] <;> rfl), by repeat (first | (with_reducible first | exact HB.out | apply below_alloc | apply pw_below_drewN | apply below_drew1) | exact HB.out)⟩
                · replace c34 := Bool.eq_false_iff.mpr c34
                  subst c34
                  have H1 : (some ((⟨#[]⟩ : ByteArray), 500)) = some (r1, r2) := by rw [if_neg (show ¬ (false = true) by decide)] at H; exact H
                  clear H
                  have H := H1
                  clear H1
                  simp only [Option.some.injEq, Prod.mk.injEq] at H
                  obtain ⟨rfl, rfl⟩ := H
                  go_wp2_with (first | (go_at_call 104; (with_reducible refine (comp_shape.calls kj4 a3 t116 t117 t118 _ A13.out).mono ?_); rintro e w' ⟨rfl, ⟨nd, rfl⟩⟩; (try first | exact ⟨rfl, _, World.drewN_drewN _ _ _⟩ | exact ⟨rfl, _, Eq.trans (World.drewN_drewN _ _ _) (congrArg (World.drewN _) (Nat.add_assoc _ _ _))⟩)) | (go_at_call 102; (with_reducible refine (rdata_May.calls a3 (a0.extract (a1 : Int).toNat ((wrap64 (a1 + a2)) : Int).toNat) false _ A33.out).mono ?_); rintro e w36 ⟨rfl, hb⟩; have n0_ := Aside0.mk (below_step (by repeat (first | (with_reducible first | exact HB.out | apply below_alloc | apply pw_below_drewN | apply below_drew1) | exact HB.out)) hb); clear HB; have HB := n0_; clear n0_; (try clear hb); (try clear hb2); (try clear hk); (try clear hi)))
                  repeat (go_quiet (first | (go_at_call 104; (with_reducible refine (comp_shape.calls kj4 a3 t116 t117 t118 _ A13.out).mono ?_); rintro e w' ⟨rfl, ⟨nd, rfl⟩⟩; (try first | exact ⟨rfl, _, World.drewN_drewN _ _ _⟩ | exact ⟨rfl, _, Eq.trans (World.drewN_drewN _ _ _) (congrArg (World.drewN _) (Nat.add_assoc _ _ _))⟩)) | (go_at_call 102; (with_reducible refine (rdata_May.calls a3 (a0.extract (a1 : Int).toNat ((wrap64 (a1 + a2)) : Int).toNat) false _ A33.out).mono ?_); rintro e w36 ⟨rfl, hb⟩; have n0_ := Aside0.mk (below_step (by repeat (first | (with_reducible first | exact HB.out | apply below_alloc | apply pw_below_drewN | apply below_drew1) | exact HB.out)) hb); clear HB; have HB := n0_; clear n0_; (try clear hb); (try clear hb2); (try clear hk); (try clear hi))); try go_wp2_with (first | (go_at_call 104; (with_reducible refine (comp_shape.calls kj4 a3 t116 t117 t118 _ A13.out).mono ?_); rintro e w' ⟨rfl, ⟨nd, rfl⟩⟩; (try first | exact ⟨rfl, _, World.drewN_drewN _ _ _⟩ | exact ⟨rfl, _, Eq.trans (World.drewN_drewN _ _ _) (congrArg (World.drewN _) (Nat.add_assoc _ _ _))⟩)) | (go_at_call 102; (with_reducible refine (rdata_May.calls a3 (a0.extract (a1 : Int).toNat ((wrap64 (a1 + a2)) : Int).toNat) false _ A33.out).mono ?_); rintro e w36 ⟨rfl, hb⟩; have n0_ := Aside0.mk (below_step (by repeat (first | (with_reducible first | exact HB.out | apply below_alloc | apply pw_below_drewN | apply below_drew1) | exact HB.out)) hb); clear HB; have HB := n0_; clear n0_; (try clear hb); (try clear hb2); (try clear hk); (try clear hi))))
                  go_ret2
                  exact ⟨by first | rfl | (simp [errW_none, errW_some] <;> rfl) | (simp [*, errW_none, errW_some] <;> rfl), by repeat (first | (with_reducible first | exact HB.out | apply below_alloc | apply pw_below_drewN | apply below_drew1) | exact HB.out)⟩
            · rw [if_neg c12] at H
              exact absurd H (by simp)
          · rw [if_neg c11] at H
            exact absurd H (by simp)
        · rw [if_neg c10] at H
          exact absurd H (by simp)

end Go.Proofs.Ytjklgdpffmaamaa.PCm

namespace Go.Proofs.Ytjklgdpffmaamaa.Wm
open Go.RowKit Go.PlainAid Go.Maps Go.Proofs.Ytjklgdpffmaamaa.Base Go.Proofs.Ytjklgdpffmaamaa.Oct Go.Proofs.Ytjklgdpffmaamaa.Nm
open Go.Proofs.YtjklgdpffmaamaaW.PrintWords (blk_cell blk_below blk_put blk_frozen blk_ne blk_new blk_lt blk_grown LeO)
set_option linter.unusedVariables false
/-- Where the reader stands, whether something was bad. -/
structure Rs where
  at_ : Int
  bad : Bool
def u16V (s : ByteArray) (i : Int) : Int × Int × Int := if 0 ≤ i ∧ i + 2 ≤ s.size then (be2 s i.toNat, i + 2, 0) else (0, 0, 300)
def u32V (s : ByteArray) (i : Int) : Int × Int × Int := if 0 ≤ i ∧ i + 4 ≤ s.size then (be4 s i.toNat, i + 4, 0) else (0, 0, 300)
def numV (r : Rs) (x : Int × Int × Int) : Int × Rs := if r.bad || x.2.2 != 0 then (0, ⟨r.at_, true⟩) else (x.1, ⟨x.2.1, false⟩)
structure RdAt (w : World) (g : Nat) (s : ByteArray) (r : Rs) : Prop where
  blk : w.heap[g]? = some (.cells #[.string s, .int .i64 r.at_, .bool r.bad] 120 (0, 0))
section
variable {w w1 w' : World} {g : Nat} {s : ByteArray} {r : Rs}
theorem RdAt.below (h : RdAt w g s r) (hb : Below w.heap.size w w') : RdAt w' g s r := ⟨blk_below h.blk hb⟩
theorem grown_below (hb : Below w.heap.size w w') (row : Option Nat) : w.grownBy w' row := ⟨hb.os, hb.tape, hb.output, hb.size, fun k hk _ => hb.block k hk⟩
theorem grown_set (w : World) (g i : Nat) (v : Value) : w.grownBy (w.setCell ⟨g, i, none⟩ v) (some g) := ⟨rfl, rfl, rfl, by simp [World.setCell], fun k hk h => Below.heap_setCell w _ _ k (by rintro rfl; exact h rfl)⟩
theorem grown_far {w W : World} {row : Option Nat} (h : w.grownBy W row) {p : Addr} (hp : w.heap.size ≤ p.block) (v : Value) : w.grownBy (W.setCell p v) row :=
  ⟨h.os, h.tape, h.output, by simpa [World.setCell] using h.size, fun k hk hne => (Below.heap_setCell W p v k (by omega)).trans (h.block k hk hne)⟩
theorem grown_set' {w W : World} {g : Nat} (h : w.grownBy W (some g)) (i : Nat) (v : Value) : w.grownBy (W.setCell ⟨g, i, none⟩ v) (some g) := h.trans (grown_set W g i v)
theorem grown_alloc' {w W : World} {row : Option Nat} (h : w.grownBy W row) (o : Obj) : w.grownBy (W.alloc o) row := h.trans (World.grownBy_alloc W _ _)
theorem blk_set_ne {w : World} {g : Nat} {o : Obj} {p : Addr} (h : w.heap[g]? = some o) (hne : g ≠ p.block) (v : Value) : (w.setCell p v).heap[g]? = some o := (Below.heap_setCell w p v g hne).trans h
theorem u16c (s : ByteArray) (i : Int) (w : World) (hs : s.size ≤ 9223372036854775000) : Calls Try.prog 92 #[.string s, .int .i64 i] w fun e w' => e = .returned (.tuple #[.int .i64 (u16V s i).1, .int .i64 (u16V s i).2.1, .int .i64 (u16V s i).2.2]) ∧ w = w' := by
  unfold u16V
  by_cases h : 0 ≤ i ∧ i + 2 ≤ s.size
  · rw [if_pos h]; exact u16z s i w hs h.1 h.2
  · rw [if_neg h]; exact u16n s i w hs h
theorem u32c (s : ByteArray) (i : Int) (w : World) (hs : s.size ≤ 9223372036854775000) : Calls Try.prog 96 #[.string s, .int .i64 i] w fun e w' => e = .returned (.tuple #[.int .i64 (u32V s i).1, .int .i64 (u32V s i).2.1, .int .i64 (u32V s i).2.2]) ∧ w = w' := by
  unfold u32V
  by_cases h : 0 ≤ i ∧ i + 4 ≤ s.size
  · rw [if_pos h]; exact u32z s i w hs h.1 h.2
  · rw [if_neg h]; exact u32n s i w hs h
set_option maxHeartbeats 2000000 in
set_option maxRecDepth 100000 in
theorem num16 (H : RdAt w g s r) (hs : s.size ≤ 4096) : Calls Try.prog 95 #[.pointer (some ⟨g, 0, none⟩), .func (.func 92) #[] #[]] w fun e w' => e = .returned (.int .i64 (numV r (u16V s r.at_)).1) ∧ RdAt w' g s (numV r (u16V s r.at_)).2 ∧ w.grownBy w' (some g) := by
  have c0 : w.cell? ⟨g, 0, none⟩ = some (.string s) := (blk_cell H.blk 0).trans rfl
  have c1 : w.cell? ⟨g, 1, none⟩ = some (.int .i64 r.at_) := (blk_cell H.blk 1).trans rfl
  have kc := fun w => Hd.same_below (u16c s r.at_ w (by omega))
  have hblk := H.blk
  obtain ⟨ra, rb⟩ := r
  dsimp only at c1 kc hblk ⊢
  obtain ⟨Vv, hV⟩ : ∃ V, u16V s ra = V := ⟨_, rfl⟩
  simp only [hV] at kc ⊢
  clear hV
  obtain ⟨x, a, e⟩ := Vv
  dsimp only [numV] at kc ⊢
  have r0 := cell_regrown c0
  have r1 := cell_regrown c1
  have fin : ∀ (W : World) (b : Bool), W.heap[g]? = some (.cells #[.string s, .int .i64 ra, .bool rb] 120 (0, 0)) → (W.setCell ⟨g, 2, none⟩ (.bool b)).heap[g]? = some (.cells #[.string s, .int .i64 ra, .bool b] 120 (0, 0)) ∧ ((W.setCell ⟨g, 2, none⟩ (.bool b)).setCell ⟨g, 1, none⟩ (.int .i64 a)).heap[g]? = some (.cells #[.string s, .int .i64 a, .bool b] 120 (0, 0)) :=
    fun W b h => ⟨blk_put h 2 _ rfl, blk_put (blk_put h 2 (.bool b) rfl) 1 _ rfl⟩
  have FIN := Lib.hid fin
  clear fin
  go_enter Try.func95, Try.ntmps95
  go_upto_region 1 with (fail)
  refine wp_region_quiet_below (by kernel_rfl) (by kernel_rfl) ?_
  repeat (go_big_quiet_step (exact Calls.regrown_of (kc _)))
  refine wpQuiet_nil ?_
  intro _ hw'
  obtain ⟨⟨dq, osq⟩, hw''⟩ := hw'
  subst hw''
  have B1 := below_regrown w dq osq
  generalize Go.Sort.grow (redrawn w dq) osq = w1 at B1 ⊢
  have b1 := blk_below hblk B1
  have d2 : w1.cell? ⟨g, 2, none⟩ = some (.bool rb) := (blk_cell b1 2).trans rfl
  have d1 : w1.cell? ⟨g, 1, none⟩ = some (.int .i64 ra) := (blk_cell b1 1).trans rfl
  have f2 := blk_frozen b1 2
  have f1 := blk_frozen b1 1
  have G1 := grown_below B1 (some g)
  clear kc
  cases rb with
  | true =>
    go_wp2
    go_ret
    exact ⟨rfl, ⟨(FIN.out w1 true b1).1⟩, G1.trans (grown_set _ _ _ _)⟩
  | false =>
    by_cases he : e = 0
    · subst he
      have q : ((0 : Int) != 0) = false := by decide
      go_wp2
      go_ret
      exact ⟨rfl, ⟨(FIN.out w1 false b1).2⟩, (G1.trans (grown_set _ _ _ _)).trans (grown_set _ _ _ _)⟩
    · have q : (e == 0) = false := by simp [he]
      have q2 : (e != 0) = true := by simp [he]
      go_wp2
      go_ret
      exact ⟨rfl, ⟨(FIN.out w1 true b1).1⟩, G1.trans (grown_set _ _ _ _)⟩
set_option maxHeartbeats 2000000 in
set_option maxRecDepth 100000 in
theorem num32 (H : RdAt w g s r) (hs : s.size ≤ 4096) : Calls Try.prog 95 #[.pointer (some ⟨g, 0, none⟩), .func (.func 96) #[] #[]] w fun e w' => e = .returned (.int .i64 (numV r (u32V s r.at_)).1) ∧ RdAt w' g s (numV r (u32V s r.at_)).2 ∧ w.grownBy w' (some g) := by
  have c0 : w.cell? ⟨g, 0, none⟩ = some (.string s) := (blk_cell H.blk 0).trans rfl
  have c1 : w.cell? ⟨g, 1, none⟩ = some (.int .i64 r.at_) := (blk_cell H.blk 1).trans rfl
  have kc := fun w => Hd.same_below (u32c s r.at_ w (by omega))
  have hblk := H.blk
  obtain ⟨ra, rb⟩ := r
  dsimp only at c1 kc hblk ⊢
  obtain ⟨Vv, hV⟩ : ∃ V, u32V s ra = V := ⟨_, rfl⟩
  simp only [hV] at kc ⊢
  clear hV
  obtain ⟨x, a, e⟩ := Vv
  dsimp only [numV] at kc ⊢
  have r0 := cell_regrown c0
  have r1 := cell_regrown c1
  have fin : ∀ (W : World) (b : Bool), W.heap[g]? = some (.cells #[.string s, .int .i64 ra, .bool rb] 120 (0, 0)) → (W.setCell ⟨g, 2, none⟩ (.bool b)).heap[g]? = some (.cells #[.string s, .int .i64 ra, .bool b] 120 (0, 0)) ∧ ((W.setCell ⟨g, 2, none⟩ (.bool b)).setCell ⟨g, 1, none⟩ (.int .i64 a)).heap[g]? = some (.cells #[.string s, .int .i64 a, .bool b] 120 (0, 0)) :=
    fun W b h => ⟨blk_put h 2 _ rfl, blk_put (blk_put h 2 (.bool b) rfl) 1 _ rfl⟩
  have FIN := Lib.hid fin
  clear fin
  go_enter Try.func95, Try.ntmps95
  go_upto_region 1 with (fail)
  refine wp_region_quiet_below (by kernel_rfl) (by kernel_rfl) ?_
  repeat (go_big_quiet_step (exact Calls.regrown_of (kc _)))
  refine wpQuiet_nil ?_
  intro _ hw'
  obtain ⟨⟨dq, osq⟩, hw''⟩ := hw'
  subst hw''
  have B1 := below_regrown w dq osq
  generalize Go.Sort.grow (redrawn w dq) osq = w1 at B1 ⊢
  have b1 := blk_below hblk B1
  have d2 : w1.cell? ⟨g, 2, none⟩ = some (.bool rb) := (blk_cell b1 2).trans rfl
  have d1 : w1.cell? ⟨g, 1, none⟩ = some (.int .i64 ra) := (blk_cell b1 1).trans rfl
  have f2 := blk_frozen b1 2
  have f1 := blk_frozen b1 1
  have G1 := grown_below B1 (some g)
  clear kc
  cases rb with
  | true =>
    go_wp2
    go_ret
    exact ⟨rfl, ⟨(FIN.out w1 true b1).1⟩, G1.trans (grown_set _ _ _ _)⟩
  | false =>
    by_cases he : e = 0
    · subst he
      have q : ((0 : Int) != 0) = false := by decide
      go_wp2
      go_ret
      exact ⟨rfl, ⟨(FIN.out w1 false b1).2⟩, (G1.trans (grown_set _ _ _ _)).trans (grown_set _ _ _ _)⟩
    · have q : (e == 0) = false := by simp [he]
      have q2 : (e != 0) = true := by simp [he]
      go_wp2
      go_ret
      exact ⟨rfl, ⟨(FIN.out w1 true b1).1⟩, G1.trans (grown_set _ _ _ _)⟩
end
/-- A question that is read. -/
def questV (k : Nat) (s : ByteArray) (r : Rs) : Option (Qn × Rs) :=
  (PCm.comp_Name.f k s r.at_).bind fun x => if r.bad || x.2.2 != 0 then some (zQ, ⟨r.at_, true⟩) else
    some (⟨x.1, (numV ⟨x.2.1, false⟩ (u16V s x.2.1)).1, (numV (numV ⟨x.2.1, false⟩ (u16V s x.2.1)).2 (u16V s (numV ⟨x.2.1, false⟩ (u16V s x.2.1)).2.at_)).1⟩,
      ⟨(numV (numV ⟨x.2.1, false⟩ (u16V s x.2.1)).2 (u16V s (numV ⟨x.2.1, false⟩ (u16V s x.2.1)).2.at_)).2.at_, (numV (numV ⟨x.2.1, false⟩ (u16V s x.2.1)).2 (u16V s (numV ⟨x.2.1, false⟩ (u16V s x.2.1)).2.at_)).2.bad || (numV ⟨x.2.1, false⟩ (u16V s x.2.1)).1 == 0⟩)
section
variable {w w1 w' : World} {g : Nat} {s : ByteArray} {r : Rs}
set_option maxHeartbeats 4000000 in
set_option maxRecDepth 100000 in
theorem questc (H : RdAt w g s r) (hs : s.size ≤ 4096) {k : Nat} {q : Qn} {r' : Rs} (hq : questV k s r = some (q, r')) : Calls Try.prog 66 #[.pointer (some ⟨g, 0, none⟩)] w fun e w' => e = .returned (.agg #[.string q.name, .int .i64 q.type, .int .i64 q.cls]) ∧ RdAt w' g s r' ∧ w.grownBy w' (some g) := by
  have hglt := blk_lt H.blk
  unfold questV at hq
  obtain ⟨x, hx, hq⟩ := Option.bind_eq_some_iff.1 hq
  have kc := fun w => PCm.comp_Name.calls k s r.at_ x.1 x.2.1 x.2.2 w hx
  obtain ⟨n, a, e⟩ := x
  obtain ⟨ra, rb⟩ := r
  dsimp only at kc hq
  have Ba : Below w.heap.size w (w.alloc (.cells #[.string ⟨#[]⟩, .int .i64 0, .int .i64 0] 40)) := (Below.refl _ _).alloc (Nat.le_refl _) _
  have Ha := H.below Ba
  have c0 : (w.alloc (.cells #[.string ⟨#[]⟩, .int .i64 0, .int .i64 0] 40)).cell? ⟨g, 0, none⟩ = some (.string s) := (blk_cell Ha.blk 0).trans rfl
  have c1 : (w.alloc (.cells #[.string ⟨#[]⟩, .int .i64 0, .int .i64 0] 40)).cell? ⟨g, 1, none⟩ = some (.int .i64 ra) := (blk_cell Ha.blk 1).trans rfl
  have r0 := cell_regrown c0
  have r1 := cell_regrown c1
  have HQ := Lib.hid hq
  clear hq
  go_enter Try.func66, Try.ntmps66
  go_upto_region 1 with (fail)
  refine wp_region_quiet_below (by kernel_rfl) (by kernel_rfl) ?_
  repeat (go_big_quiet_step (exact Calls.regrown_of (kc _)))
  refine wpQuiet_nil ?_
  intro _ hw'
  obtain ⟨⟨dq, osq⟩, hw''⟩ := hw'
  subst hw''
  have ba := blk_new w (.cells #[.string ⟨#[]⟩, .int .i64 0, .int .i64 0] 40)
  have B1 := below_regrown (w.alloc (.cells #[.string ⟨#[]⟩, .int .i64 0, .int .i64 0] 40)) dq osq
  have G1 := (grown_below Ba (some g)).trans (grown_below B1 (some g))
  have b1 := blk_below Ha.blk B1
  have p1 := blk_below ba B1
  clear kc r0 r1 c0 c1 Ha ba B1 Ba hx
  generalize Go.Sort.grow (redrawn (w.alloc (.cells #[.string ⟨#[]⟩, .int .i64 0, .int .i64 0] 40)) dq) osq = w1 at *
  dsimp only at b1
  have hpg : g ≠ w.heap.size := Nat.ne_of_lt hglt
  have d0 : w1.cell? ⟨g, 0, none⟩ = some (.string s) := (blk_cell b1 0).trans rfl
  have d1 : w1.cell? ⟨g, 1, none⟩ = some (.int .i64 ra) := (blk_cell b1 1).trans rfl
  have d2 : w1.cell? ⟨g, 2, none⟩ = some (.bool rb) := (blk_cell b1 2).trans rfl
  have f1 := blk_frozen b1 1
  have f2 := blk_frozen b1 2
  have x0 : w1.cell? ⟨w.heap.size, 0, none⟩ = some (.string ⟨#[]⟩) := (blk_cell p1 0).trans rfl
  have x1 : w1.cell? ⟨w.heap.size, 1, none⟩ = some (.int .i64 0) := (blk_cell p1 1).trans rfl
  have x2 : w1.cell? ⟨w.heap.size, 2, none⟩ = some (.int .i64 0) := (blk_cell p1 2).trans rfl
  have y0 := blk_frozen p1 0
  have y1 := blk_frozen p1 1
  have y2 := blk_frozen p1 2
  by_cases hbad : (rb || e != 0) = true
  · have hv : q = zQ ∧ r' = ⟨ra, true⟩ := by
      have := HQ.out
      rw [if_pos hbad] at this
      injection this with this
      injection this with h1 h2
      exact ⟨h1.symm, h2.symm⟩
    obtain ⟨rfl, rfl⟩ := hv
    clear HQ
    have bf := blk_put b1 2 (.bool true) rfl
    have pf := blk_set_ne (p := ⟨g, 2, none⟩) p1 (Ne.symm hpg) (.bool true)
    have hb2 : rb = true ∨ (rb = false ∧ e ≠ 0) := by cases rb <;> simp_all
    have pF := blk_put (blk_put (blk_put pf 0 (.string ⟨#[]⟩) rfl) 1 (.int .i64 0) rfl) 2 (.int .i64 0) rfl
    have bF := blk_set_ne (p := ⟨w.heap.size, 2, none⟩) (blk_set_ne (p := ⟨w.heap.size, 1, none⟩) (blk_set_ne (p := ⟨w.heap.size, 0, none⟩) bf hpg (.string ⟨#[]⟩)) hpg (.int .i64 0)) hpg (.int .i64 0)
    have GF := grown_far (p := ⟨w.heap.size, 2, none⟩) (grown_far (p := ⟨w.heap.size, 1, none⟩) (grown_far (p := ⟨w.heap.size, 0, none⟩) (grown_set' G1 2 (.bool true)) (Nat.le_refl _) (.string ⟨#[]⟩)) (Nat.le_refl _) (.int .i64 0)) (Nat.le_refl _) (.int .i64 0)
    have e0 := (blk_cell pF 0).trans rfl
    have e1 := (blk_cell pF 1).trans rfl
    have e2 := (blk_cell pF 2).trans rfl
    rcases hb2 with rfl | ⟨rfl, he⟩
    · go_wp2
      exact bodyPost_ret (v := .agg #[.string ⟨#[]⟩, .int .i64 0, .int .i64 0]) (by simp [results, Try.results66, go_sem, e0, e1, e2]) rfl ⟨rfl, ⟨bF⟩, GF⟩
    · have q1 : (e == 0) = false := by simp [he]
      go_wp2
      exact bodyPost_ret (v := .agg #[.string ⟨#[]⟩, .int .i64 0, .int .i64 0]) (by simp [results, Try.results66, go_sem, e0, e1, e2]) rfl ⟨rfl, ⟨bF⟩, GF⟩
  · have hb2 : rb = false ∧ e = 0 := by
      cases rb with
      | true => simp at hbad
      | false => simpa using hbad
    obtain ⟨rfl, rfl⟩ := hb2
    have hv := HQ.out
    rw [if_neg hbad] at hv
    injection hv with hv
    injection hv with h1 h2
    clear HQ hbad
    obtain ⟨V1, hV1⟩ : ∃ V, numV ⟨a, false⟩ (u16V s a) = V := ⟨_, rfl⟩
    rw [hV1] at h1 h2
    obtain ⟨V2, hV2⟩ : ∃ V, numV V1.2 (u16V s V1.2.at_) = V := ⟨_, rfl⟩
    rw [hV2] at h1 h2
    have HV1 := Lib.hid hV1
    have HV2 := Lib.hid hV2
    have HQ1 := Lib.hid h1
    have HQ2 := Lib.hid h2
    clear hV1 hV2 h1 h2
    have b2 := blk_put (blk_put b1 2 (.bool false) rfl) 1 (.int .i64 a) rfl
    have p2 := blk_set_ne (p := ⟨g, 1, none⟩) (blk_set_ne (p := ⟨g, 2, none⟩) p1 (Ne.symm hpg) (.bool false)) (Ne.symm hpg) (.int .i64 a)
    have G2 := grown_set' (grown_set' G1 2 (.bool false)) 1 (.int .i64 a)
    go_wp2_with fail
    generalize (w1.setCell ⟨g, 2, none⟩ (.bool false)).setCell ⟨g, 1, none⟩ (.int .i64 a) = w2 at *
    have kn := num16 (w := w2) (r := ⟨a, false⟩) ⟨b2⟩ hs
    dsimp only at kn
    rw [HV1.out] at kn
    refine kn.mono ?_
    rintro e w3 ⟨rfl, H3, G3⟩
    have p3 := blk_grown p2 G3 (by intro q; injection q with q; exact hpg q.symm)
    replace G3 := G2.trans G3
    clear kn b2 p2 G2 p1 b1 G1 d0 d1 d2 f1 f2 x0 x1 x2 y0 y1 y2
    have Bb : Below w3.heap.size w3 (w3.alloc (.cells #[.string n, .int .i64 V1.1, .int .i64 0] 40)) := (Below.refl _ _).alloc (Nat.le_refl _) _
    have q3 := blk_new w3 (.cells #[.string n, .int .i64 V1.1, .int .i64 0] 40)
    have H3a := H3.below Bb
    have p3a := blk_below p3 Bb
    have G3a := grown_alloc' G3 (.cells #[.string n, .int .i64 V1.1, .int .i64 0] 40)
    have hbg : g ≠ w3.heap.size := Nat.ne_of_lt (blk_lt H3.blk)
    have hbp : w.heap.size ≠ w3.heap.size := Nat.ne_of_lt (blk_lt p3)
    have hw3 : w.heap.size ≤ w3.heap.size := G3.size
    go_wp2_with fail
    generalize w3.alloc (.cells #[.string n, .int .i64 V1.1, .int .i64 0] 40) = w3a at *
    generalize w3.heap.size = kb at *
    have kn := num16 H3a hs
    rw [HV2.out] at kn
    refine kn.mono ?_
    rintro e w4 ⟨rfl, H4, G4⟩
    have p4 := blk_grown p3a G4 (by intro q; injection q with q; exact hpg q.symm)
    have q4 := blk_grown q3 G4 (by intro q; injection q with q; exact hbg q.symm)
    replace G4 := G3a.trans G4
    have b4 := H4.blk
    clear kn p3a q3 G3a G3 H3 H3a Bb p3 H4
    obtain ⟨v2, ⟨ra2, rb2⟩⟩ := V2
    obtain ⟨v1, r1⟩ := V1
    dsimp only at b4 q4 HQ1 HQ2 ⊢
    -- the box with its class
    have q5 := blk_put q4 2 (.int .i64 v2) rfl
    have b5 := blk_set_ne (p := ⟨kb, 2, none⟩) b4 hbg (.int .i64 v2)
    have p5 := blk_set_ne (p := ⟨kb, 2, none⟩) p4 hbp (.int .i64 v2)
    have z1 : w4.cell? ⟨kb, 2, none⟩ = some (.int .i64 0) := (blk_cell q4 2).trans rfl
    have z2 := blk_frozen q4 2
    have z3 := (blk_cell b5 2).trans rfl
    have z4 := blk_frozen b5 2
    have z5 := (blk_cell q5 1).trans rfl
    have G5 := grown_far (p := ⟨kb, 2, none⟩) G4 hw3 (.int .i64 v2)
    have fin : ∀ bb : Bool, ∃ W, W = (((((w4.setCell ⟨kb, 2, none⟩ (.int .i64 v2)).setCell ⟨g, 2, none⟩ (.bool bb)).setCell ⟨w.heap.size, 0, none⟩ (.string n)).setCell ⟨w.heap.size, 1, none⟩ (.int .i64 v1)).setCell ⟨w.heap.size, 2, none⟩ (.int .i64 v2)) ∧ W.heap[w.heap.size]? = some (.cells #[.string n, .int .i64 v1, .int .i64 v2] 40 (0, 0)) ∧ W.heap[g]? = some (.cells #[.string s, .int .i64 ra2, .bool bb] 120 (0, 0)) ∧ w.grownBy W (some g) := by
      intro bb
      have b6 := blk_put b5 2 (.bool bb) rfl
      have p6 := blk_set_ne (p := ⟨g, 2, none⟩) p5 (Ne.symm hpg) (.bool bb)
      exact ⟨_, rfl, blk_put (blk_put (blk_put p6 0 (.string n) rfl) 1 (.int .i64 v1) rfl) 2 (.int .i64 v2) rfl,
        blk_set_ne (p := ⟨w.heap.size, 2, none⟩) (blk_set_ne (p := ⟨w.heap.size, 1, none⟩) (blk_set_ne (p := ⟨w.heap.size, 0, none⟩) b6 hpg (.string n)) hpg (.int .i64 v1)) hpg (.int .i64 v2),
        grown_far (p := ⟨w.heap.size, 2, none⟩) (grown_far (p := ⟨w.heap.size, 1, none⟩) (grown_far (p := ⟨w.heap.size, 0, none⟩) (grown_set' G5 2 (.bool bb)) (Nat.le_refl _) (.string n)) (Nat.le_refl _) (.int .i64 v1)) (Nat.le_refl _) (.int .i64 v2)⟩
    have fs : ∀ bb : Bool, (((w4.setCell ⟨kb, 2, none⟩ (.int .i64 v2)).setCell ⟨g, 2, none⟩ (.bool bb)).heap[kb]? = some (.cells #[.string n, .int .i64 v1, .int .i64 v2] 40 (0, 0))) ∧ (((w4.setCell ⟨kb, 2, none⟩ (.int .i64 v2)).setCell ⟨g, 2, none⟩ (.bool bb)).heap[w.heap.size]? = some (.cells #[.string ⟨#[]⟩, .int .i64 0, .int .i64 0] 40 (0, 0))) :=
      fun bb => ⟨blk_set_ne (p := ⟨g, 2, none⟩) q5 (Ne.symm hbg) (.bool bb), blk_set_ne (p := ⟨g, 2, none⟩) p5 (Ne.symm hpg) (.bool bb)⟩
    have FIN := Lib.hid fin
    have FS := Lib.hid fs
    clear fin fs
    cases rb2 with
    | true =>
      obtain ⟨W, hW, pF, bF, GF⟩ := FIN.out true
      have S := FS.out true
      have l0 := (blk_cell S.1 0).trans rfl
      have l1 := (blk_cell S.1 1).trans rfl
      have l2 := (blk_cell S.1 2).trans rfl
      have m0 := (blk_cell S.2 0).trans rfl
      have m1 := (blk_cell S.2 1).trans rfl
      have m2 := (blk_cell S.2 2).trans rfl
      have n0 := blk_frozen S.2 0
      have n1 := blk_frozen S.2 1
      have n2 := blk_frozen S.2 2
      have e0 := (blk_cell pF 0).trans rfl
      have e1 := (blk_cell pF 1).trans rfl
      have e2 := (blk_cell pF 2).trans rfl
      subst hW
      go_wp2
      exact bodyPost_ret (v := .agg #[.string n, .int .i64 v1, .int .i64 v2]) (by simp [results, Try.results66, go_sem, e0, e1, e2]) rfl ⟨by rw [← HQ1.out], by rw [← HQ2.out]; exact ⟨bF⟩, GF⟩
    | false =>
      by_cases hv1 : v1 = 0
      · subst hv1
        obtain ⟨W, hW, pF, bF, GF⟩ := FIN.out true
        have S := FS.out true
        have l0 := (blk_cell S.1 0).trans rfl
        have l1 := (blk_cell S.1 1).trans rfl
        have l2 := (blk_cell S.1 2).trans rfl
        have m0 := (blk_cell S.2 0).trans rfl
        have m1 := (blk_cell S.2 1).trans rfl
        have m2 := (blk_cell S.2 2).trans rfl
        have n0 := blk_frozen S.2 0
        have n1 := blk_frozen S.2 1
        have n2 := blk_frozen S.2 2
        have e0 := (blk_cell pF 0).trans rfl
        have e1 := (blk_cell pF 1).trans rfl
        have e2 := (blk_cell pF 2).trans rfl
        subst hW
        go_wp2
        exact bodyPost_ret (v := .agg #[.string n, .int .i64 0, .int .i64 v2]) (by simp [results, Try.results66, go_sem, e0, e1, e2]) rfl ⟨by rw [← HQ1.out], by rw [← HQ2.out]; exact ⟨bF⟩, GF⟩
      · have q1 : (v1 == 0) = false := by simp [hv1]
        rw [q1] at HQ2
        obtain ⟨W, hW, pF, bF, GF⟩ := FIN.out false
        have S := FS.out false
        have l0 := (blk_cell S.1 0).trans rfl
        have l1 := (blk_cell S.1 1).trans rfl
        have l2 := (blk_cell S.1 2).trans rfl
        have m0 := (blk_cell S.2 0).trans rfl
        have m1 := (blk_cell S.2 1).trans rfl
        have m2 := (blk_cell S.2 2).trans rfl
        have n0 := blk_frozen S.2 0
        have n1 := blk_frozen S.2 1
        have n2 := blk_frozen S.2 2
        have e0 := (blk_cell pF 0).trans rfl
        have e1 := (blk_cell pF 1).trans rfl
        have e2 := (blk_cell pF 2).trans rfl
        subst hW
        go_wp2
        exact bodyPost_ret (v := .agg #[.string n, .int .i64 v1, .int .i64 v2]) (by simp [results, Try.results66, go_sem, e0, e1, e2]) rfl ⟨by rw [← HQ1.out], by rw [← HQ2.out]; exact ⟨bF⟩, GF⟩
end
end Go.Proofs.Ytjklgdpffmaamaa.Wm

namespace Go.Proofs.Ytjklgdpffmaamaa.Wm
open Go.RowKit Go.PlainAid Go.Maps Go.Proofs.Ytjklgdpffmaamaa.Base Go.Proofs.Ytjklgdpffmaamaa.Oct Go.Proofs.Ytjklgdpffmaamaa.Nm
open Go.Proofs.YtjklgdpffmaamaaW.PrintWords (blk_cell blk_below blk_put blk_frozen blk_ne blk_new blk_lt blk_grown LeO)
set_option linter.unusedVariables false
def recN1 (s : ByteArray) (x : Qn × Rs) : Int × Rs := numV x.2 (u32V s x.2.at_)
def recN2 (s : ByteArray) (x : Qn × Rs) : Int × Rs := numV (recN1 s x).2 (u16V s (recN1 s x).2.at_)
/-- A record that is read. -/
def recV (k : Nat) (s : ByteArray) (r : Rs) : Option (Rr × Rs) :=
  (questV k s r).bind fun x => (PCm.comp_Data.f k s (recN2 s x).2.at_ (recN2 s x).1 x.1.type).bind fun y =>
    if (recN2 s x).2.bad || y.2 != 0 then some (zR, ⟨(recN2 s x).2.at_, true⟩) else some (⟨x.1.name, x.1.type, x.1.cls, (recN1 s x).1, y.1⟩, ⟨wrap64 ((recN2 s x).2.at_ + (recN2 s x).1), false⟩)
section
variable {w w1 w' : World} {g : Nat} {s : ByteArray} {r : Rs}
set_option maxHeartbeats 8000000 in
set_option maxRecDepth 100000 in
theorem recc (H : RdAt w g s r) (hs : s.size ≤ 4096) {k : Nat} {q : Rr} {r' : Rs} (hq : recV k s r = some (q, r')) : Calls Try.prog 68 #[.pointer (some ⟨g, 0, none⟩)] w fun e w' => e = .returned (.agg #[.string q.name, .int .i64 q.type, .int .i64 q.cls, .int .i64 q.ttl, .string q.data]) ∧ RdAt w' g s r' ∧ w.grownBy w' (some g) := by
  have hglt := blk_lt H.blk
  unfold recV at hq
  obtain ⟨⟨x, rx⟩, hx, hq⟩ := Option.bind_eq_some_iff.1 hq
  obtain ⟨y, hy, hq⟩ := Option.bind_eq_some_iff.1 hq
  have Ba : Below w.heap.size w (w.alloc (.cells #[.string ⟨#[]⟩, .int .i64 0, .int .i64 0, .int .i64 0, .string ⟨#[]⟩] 53)) := (Below.refl _ _).alloc (Nat.le_refl _) _
  have pa := blk_new w (.cells #[.string ⟨#[]⟩, .int .i64 0, .int .i64 0, .int .i64 0, .string ⟨#[]⟩] 53)
  have kq := questc (H.below Ba) hs hx
  have kd := fun w => PCm.comp_Data.calls k s (recN2 s (x, rx)).2.at_ (recN2 s (x, rx)).1 x.type y.1 y.2 w hy
  obtain ⟨d, e⟩ := y
  dsimp only at hq kd
  obtain ⟨N1, hN1⟩ : ∃ N, recN1 s (x, rx) = N := ⟨_, rfl⟩
  obtain ⟨N2, hN2⟩ : ∃ N, recN2 s (x, rx) = N := ⟨_, rfl⟩
  rw [hN1, hN2] at hq
  simp only [hN2] at kd
  have HN1 := Lib.hid hN1
  have HN2 := Lib.hid hN2
  have HQ := Lib.hid hq
  clear hN1 hN2 hq hx hy
  go_enter Try.func68, Try.ntmps68
  go_wp2_with fail
  refine kq.mono ?_
  generalize w.alloc (.cells #[.string ⟨#[]⟩, .int .i64 0, .int .i64 0, .int .i64 0, .string ⟨#[]⟩] 53) = wa at *
  rintro e w1 ⟨rfl, H1, G1⟩
  have hpg : g ≠ w.heap.size := Nat.ne_of_lt hglt
  have p1 := blk_grown pa G1 (by intro q; injection q with q; exact hpg q.symm)
  replace G1 := (grown_below Ba (some g)).trans G1
  clear kq pa Ba
  have Bb : Below w1.heap.size w1 (w1.alloc (.cells #[.string x.name, .int .i64 x.type, .int .i64 x.cls] 40)) := (Below.refl _ _).alloc (Nat.le_refl _) _
  have q1 := blk_new w1 (.cells #[.string x.name, .int .i64 x.type, .int .i64 x.cls] 40)
  have H2 := H1.below Bb
  have p2 := blk_below p1 Bb
  have G2 := grown_alloc' G1 (.cells #[.string x.name, .int .i64 x.type, .int .i64 x.cls] 40)
  have hqg : g ≠ w1.heap.size := Nat.ne_of_lt (blk_lt H1.blk)
  go_upto_region 2 with (fail)
  generalize w1.alloc (.cells #[.string x.name, .int .i64 x.type, .int .i64 x.cls] 40) = w2 at *
  generalize w1.heap.size = kq at *
  clear H1 G1 p1 Bb
  have q0 : w2.cell? ⟨kq, 0, none⟩ = some (.string x.name) := (blk_cell q1 0).trans rfl
  have q2 : w2.cell? ⟨kq, 1, none⟩ = some (.int .i64 x.type) := (blk_cell q1 1).trans rfl
  have q3 : w2.cell? ⟨kq, 2, none⟩ = some (.int .i64 x.cls) := (blk_cell q1 2).trans rfl
  have D2 : Below w2.heap.size w2 w2.drew := (Below.refl _ _).drew
  have H2d := H2.below D2
  have p2d := blk_below p2 D2
  have q1d := blk_below q1 D2
  have G2d := G2.trans (grown_below D2 (some g))
  have Dq := blk_below q1 ((Below.refl w2.heap.size w2).alloc (Nat.le_refl _) (.cells #[.string ⟨#[]⟩, .int .i64 0, .int .i64 0, .int .i64 0, .string ⟨#[]⟩] 53))
  have ea0 : (w2.alloc (.cells #[.string ⟨#[]⟩, .int .i64 0, .int .i64 0, .int .i64 0, .string ⟨#[]⟩] 53)).cell? ⟨kq, 0, none⟩ = some (.string x.name) := (blk_cell Dq 0).trans rfl
  have ea1 : (w2.alloc (.cells #[.string ⟨#[]⟩, .int .i64 0, .int .i64 0, .int .i64 0, .string ⟨#[]⟩] 53)).cell? ⟨kq, 1, none⟩ = some (.int .i64 x.type) := (blk_cell Dq 1).trans rfl
  have ea2 : (w2.alloc (.cells #[.string ⟨#[]⟩, .int .i64 0, .int .i64 0, .int .i64 0, .string ⟨#[]⟩] 53)).cell? ⟨kq, 2, none⟩ = some (.int .i64 x.cls) := (blk_cell Dq 2).trans rfl
  have nw0 := World.new_ne w2 ⟨kq, 0, none⟩ q0
  have nw1 := World.new_ne w2 ⟨kq, 1, none⟩ q2
  have nw2 := World.new_ne w2 ⟨kq, 2, none⟩ q3
  have De : Below w2.heap.size w2 (w2.alloc (.cells #[.string ⟨#[]⟩, .int .i64 0, .int .i64 0, .int .i64 0, .string ⟨#[]⟩] 53)).drew := ((Below.refl _ _).alloc (Nat.le_refl _) _).drew
  have H2e := H2.below De
  have p2e := blk_below p2 De
  have q1e := blk_below q1 De
  have k2e : (w2.alloc (.cells #[.string ⟨#[]⟩, .int .i64 0, .int .i64 0, .int .i64 0, .string ⟨#[]⟩] 53)).drew.heap[w2.heap.size]? = some (.cells #[.string ⟨#[]⟩, .int .i64 0, .int .i64 0, .int .i64 0, .string ⟨#[]⟩] 53 (0, 0)) := blk_new w2 _
  have G2e := G2.trans (grown_below De (some g))
  have hg2 : g ≠ w2.heap.size := Nat.ne_of_lt (blk_lt H2.blk)
  have hp2 : w.heap.size < w2.heap.size := blk_lt p2
  have hpk : w.heap.size ≠ w2.heap.size := Nat.ne_of_lt hp2
  have FQ : ∀ (W w3 : World), W.heap[kq]? = some (.cells #[.string x.name, .int .i64 x.type, .int .i64 x.cls] 40 (0, 0)) → W.grownBy w3 (some g) → w3.cell? ⟨kq, 0, none⟩ = some (.string x.name) ∧ w3.cell? ⟨kq, 1, none⟩ = some (.int .i64 x.type) ∧ w3.cell? ⟨kq, 2, none⟩ = some (.int .i64 x.cls) ∧ kq < w3.heap.size ∧ (∀ o, (w3.alloc o).cell? ⟨kq, 0, none⟩ = some (.string x.name) ∧ (w3.alloc o).cell? ⟨kq, 1, none⟩ = some (.int .i64 x.type) ∧ (w3.alloc o).cell? ⟨kq, 2, none⟩ = some (.int .i64 x.cls)) := fun W w3 h G => by
    have b := blk_grown h G (by intro q; injection q with q; exact hqg q.symm)
    have ba := fun o => blk_below b ((Below.refl w3.heap.size w3).alloc (Nat.le_refl _) o)
    exact ⟨(blk_cell b 0).trans rfl, (blk_cell b 1).trans rfl, (blk_cell b 2).trans rfl, blk_lt b, fun o => ⟨(blk_cell (ba o) 0).trans rfl, (blk_cell (ba o) 1).trans rfl, (blk_cell (ba o) 2).trans rfl⟩⟩
  have FK : ∀ (W w3 : World), W.heap[w2.heap.size]? = some (.cells #[.string ⟨#[]⟩, .int .i64 0, .int .i64 0, .int .i64 0, .string ⟨#[]⟩] 53 (0, 0)) → W.grownBy w3 (some g) →
      w3.heap[w2.heap.size]? = some (.cells #[.string ⟨#[]⟩, .int .i64 0, .int .i64 0, .int .i64 0, .string ⟨#[]⟩] 53 (0, 0)) ∧ w3.cell? ⟨w2.heap.size, 0, none⟩ = some (.string ⟨#[]⟩) ∧ w3.cell? ⟨w2.heap.size, 1, none⟩ = some (.int .i64 0) ∧ w3.cell? ⟨w2.heap.size, 2, none⟩ = some (.int .i64 0) ∧ w3.cell? ⟨w2.heap.size, 3, none⟩ = some (.int .i64 0) ∧ w3.cell? ⟨w2.heap.size, 4, none⟩ = some (.string ⟨#[]⟩) ∧ w3.frozen? ⟨w2.heap.size, 0, none⟩ = false ∧ w3.frozen? ⟨w2.heap.size, 1, none⟩ = false ∧ w3.frozen? ⟨w2.heap.size, 2, none⟩ = false ∧ w3.frozen? ⟨w2.heap.size, 3, none⟩ = false ∧ w3.frozen? ⟨w2.heap.size, 4, none⟩ = false := fun W w3 h G => by
    have b := blk_grown h G (by intro q; injection q with q; exact hg2 q.symm)
    exact ⟨b, (blk_cell b 0).trans rfl, (blk_cell b 1).trans rfl, (blk_cell b 2).trans rfl, (blk_cell b 3).trans rfl, (blk_cell b 4).trans rfl, blk_frozen b 0, blk_frozen b 1, blk_frozen b 2, blk_frozen b 3, blk_frozen b 4⟩
  have F1 : ∀ (w3 : World) (t : Int), RdAt w3 g s (numV rx (u32V s rx.at_)).2 → w3.heap[w.heap.size]? = some (.cells #[.string ⟨#[]⟩, .int .i64 0, .int .i64 0, .int .i64 0, .string ⟨#[]⟩] 53 (0, 0)) → w.grownBy w3 (some g) → ∃ W, W = w3.alloc (.cells #[.string x.name, .int .i64 x.type, .int .i64 x.cls, .int .i64 t, .string ⟨#[]⟩] 53) ∧ W.heap[w3.heap.size]? = some (.cells #[.string x.name, .int .i64 x.type, .int .i64 x.cls, .int .i64 t, .string ⟨#[]⟩] 53 (0, 0)) ∧ w.heap.size < w3.heap.size ∧ RdAt W g s (numV rx (u32V s rx.at_)).2 ∧ W.heap[w.heap.size]? = some (.cells #[.string ⟨#[]⟩, .int .i64 0, .int .i64 0, .int .i64 0, .string ⟨#[]⟩] 53 (0, 0)) ∧ w.grownBy W (some g) := by
    intro w3 t H p G
    have Bz : Below w3.heap.size w3 (w3.alloc (.cells #[.string x.name, .int .i64 x.type, .int .i64 x.cls, .int .i64 t, .string ⟨#[]⟩] 53)) := (Below.refl _ _).alloc (Nat.le_refl _) _
    exact ⟨_, rfl, blk_new w3 _, blk_lt p, H.below Bz, blk_below p Bz, grown_alloc' G _⟩
  have F2 : ∀ (w3 : World) (t : Int), RdAt w3 g s (numV rx (u32V s rx.at_)).2 → w3.heap[w2.heap.size]? = some (.cells #[.string ⟨#[]⟩, .int .i64 0, .int .i64 0, .int .i64 0, .string ⟨#[]⟩] 53 (0, 0)) → w3.heap[w.heap.size]? = some (.cells #[.string ⟨#[]⟩, .int .i64 0, .int .i64 0, .int .i64 0, .string ⟨#[]⟩] 53 (0, 0)) → w.grownBy w3 (some g) → ∃ W, W = (((((w3.setCell ⟨w2.heap.size, 0, none⟩ (.string x.name)).setCell ⟨w2.heap.size, 1, none⟩ (.int .i64 x.type)).setCell ⟨w2.heap.size, 2, none⟩ (.int .i64 x.cls)).setCell ⟨w2.heap.size, 3, none⟩ (.int .i64 t)).setCell ⟨w2.heap.size, 4, none⟩ (.string ⟨#[]⟩)) ∧ W.heap[w2.heap.size]? = some (.cells #[.string x.name, .int .i64 x.type, .int .i64 x.cls, .int .i64 t, .string ⟨#[]⟩] 53 (0, 0)) ∧ RdAt W g s (numV rx (u32V s rx.at_)).2 ∧ W.heap[w.heap.size]? = some (.cells #[.string ⟨#[]⟩, .int .i64 0, .int .i64 0, .int .i64 0, .string ⟨#[]⟩] 53 (0, 0)) ∧ w.grownBy W (some g) := by
    intro w3 t H k p G
    have le := Nat.le_of_lt hp2
    refine ⟨_, rfl, blk_put (blk_put (blk_put (blk_put (blk_put k 0 (.string x.name) rfl) 1 (.int .i64 x.type) rfl) 2 (.int .i64 x.cls) rfl) 3 (.int .i64 t) rfl) 4 (.string ⟨#[]⟩) rfl, ⟨?_⟩, ?_, ?_⟩
    · exact blk_set_ne (p := ⟨w2.heap.size, 4, none⟩) (blk_set_ne (p := ⟨w2.heap.size, 3, none⟩) (blk_set_ne (p := ⟨w2.heap.size, 2, none⟩) (blk_set_ne (p := ⟨w2.heap.size, 1, none⟩) (blk_set_ne (p := ⟨w2.heap.size, 0, none⟩) H.blk hg2 _) hg2 _) hg2 _) hg2 _) hg2 _
    · exact blk_set_ne (p := ⟨w2.heap.size, 4, none⟩) (blk_set_ne (p := ⟨w2.heap.size, 3, none⟩) (blk_set_ne (p := ⟨w2.heap.size, 2, none⟩) (blk_set_ne (p := ⟨w2.heap.size, 1, none⟩) (blk_set_ne (p := ⟨w2.heap.size, 0, none⟩) p hpk _) hpk _) hpk _) hpk _) hpk _
    · exact grown_far (p := ⟨w2.heap.size, 4, none⟩) (grown_far (p := ⟨w2.heap.size, 3, none⟩) (grown_far (p := ⟨w2.heap.size, 2, none⟩) (grown_far (p := ⟨w2.heap.size, 1, none⟩) (grown_far (p := ⟨w2.heap.size, 0, none⟩) G le _) le _) le _) le _) le _
  have P3 : ∀ (W w3 : World), W.heap[w.heap.size]? = some (.cells #[.string ⟨#[]⟩, .int .i64 0, .int .i64 0, .int .i64 0, .string ⟨#[]⟩] 53 (0, 0)) → W.grownBy w3 (some g) → w3.heap[w.heap.size]? = some (.cells #[.string ⟨#[]⟩, .int .i64 0, .int .i64 0, .int .i64 0, .string ⟨#[]⟩] 53 (0, 0)) := fun W w3 h G => blk_grown h G (by intro q; injection q with q; exact hpg q.symm)
  have HF1 := Lib.hid F1
  have HF2 := Lib.hid F2
  have HP3 := Lib.hid P3
  have HFQ := Lib.hid FQ
  have HFK := Lib.hid FK
  clear F1 F2 P3
  go_cut [4] (fun v4 wc => ∃ kb, v4 = .pointer (some ⟨kb, 0, none⟩) ∧ wc.heap[kb]? = some (.cells #[.string x.name, .int .i64 x.type, .int .i64 x.cls, .int .i64 N1.1, .string ⟨#[]⟩] 53 (0, 0)) ∧ w.heap.size < kb ∧ RdAt wc g s N1.2 ∧ wc.heap[w.heap.size]? = some (.cells #[.string ⟨#[]⟩, .int .i64 0, .int .i64 0, .int .i64 0, .string ⟨#[]⟩] 53 (0, 0)) ∧ w.grownBy wc (some g))
  case first =>
    go_region_held3 (fun w' => w'.cell? ⟨kq, 0, none⟩ = some (.string x.name) ∧ w'.cell? ⟨kq, 1, none⟩ = some (.int .i64 x.type) ∧ w'.cell? ⟨kq, 2, none⟩ = some (.int .i64 x.cls))
      (first | with_reducible exact ⟨q0, q2, q3⟩ | with_reducible exact ⟨ea0, ea1, ea2⟩ | with_reducible exact ⟨q30, q31, q32⟩ | with_reducible exact ⟨qa0, qa1, qa2⟩ | (go_keep; done) | (refine ⟨?_, ?_, ?_⟩ <;> (go_simp; done)))
      (first
      | (go_at_call 95; with_reducible refine (num32 H2d hs).mono ?_; rintro e w3 ⟨rfl, H3, G3⟩; obtain ⟨q30, q31, q32, qlt, qal⟩ := FQ _ _ q1d G3; have nv0 := World.new_ne w3 ⟨kq, 0, none⟩ q30; have nv1 := World.new_ne w3 ⟨kq, 1, none⟩ q31; have nv2 := World.new_ne w3 ⟨kq, 2, none⟩ q32; have qa0 := (qal (.cells #[.string ⟨#[]⟩, .int .i64 0, .int .i64 0, .int .i64 0, .string ⟨#[]⟩] 53)).1; have qa1 := (qal (.cells #[.string ⟨#[]⟩, .int .i64 0, .int .i64 0, .int .i64 0, .string ⟨#[]⟩] 53)).2.1; have qa2 := (qal (.cells #[.string ⟨#[]⟩, .int .i64 0, .int .i64 0, .int .i64 0, .string ⟨#[]⟩] 53)).2.2; clear qal)
      | (go_at_call 95; with_reducible refine (num32 H2e hs).mono ?_; rintro e w3 ⟨rfl, H3, G3⟩; obtain ⟨q30, q31, q32, qlt, qal⟩ := FQ _ _ q1e G3; have nv0 := World.new_ne w3 ⟨kq, 0, none⟩ q30; have nv1 := World.new_ne w3 ⟨kq, 1, none⟩ q31; have nv2 := World.new_ne w3 ⟨kq, 2, none⟩ q32; clear qal; obtain ⟨k3, m0, m1, m2, m3, m4, n0, n1, n2, n3, n4⟩ := FK _ _ k2e G3))
    all_goals
      go_wp2_with fail
      go_meet
      case rel =>
        have hN := HN1.out
        unfold recN1 at hN
        dsimp only at hN
        rw [← hN]
        first
        | (have hk3 := k3
           have hp3 := HP3.out (w2.alloc (.cells #[.string ⟨#[]⟩, .int .i64 0, .int .i64 0, .int .i64 0, .string ⟨#[]⟩] 53)).drew w3 p2e G3
           have hg3 := G2e.trans G3
           obtain ⟨W, hW, a, c, d, e⟩ := HF2.out w3 (numV rx (u32V s rx.at_)).1 H3 hk3 hp3 hg3
           rw [← hW]
           exact ⟨w2.heap.size, rfl, a, hp2, c, d, e⟩)
        | (have hp3 := HP3.out w2.drew w3 p2d G3
           have hg3 := G2d.trans G3
           obtain ⟨W, hW, a, b, c, d, e⟩ := HF1.out w3 (numV rx (u32V s rx.at_)).1 H3 hp3 hg3
           rw [← hW]
           exact ⟨w3.heap.size, rfl, a, b, c, d, e⟩)
  case rest =>
  clear HF1 HF2 HP3 HFQ HFK FQ FK
  obtain ⟨kb, rfl, bk, hkp, H4, p4, G4⟩ := hcut
  clear H2 p2 q1 G2 q0 q2 q3 D2 H2d p2d q1d G2d De H2e p2e q1e k2e G2e Dq ea0 ea1 ea2 nw0 nw1 nw2
  obtain ⟨n1, rn1⟩ := N1
  dsimp only at bk H4
  have hkg : g ≠ kb := blk_ne H4.blk bk (by decide)
  have hkp' : w.heap.size ≠ kb := Nat.ne_of_lt hkp
  have kn := num16 H4 hs
  have hN2 : numV rn1 (u16V s rn1.at_) = N2 := by have := HN2.out; unfold recN2 at this; rw [HN1.out] at this; exact this
  rw [hN2] at kn
  go_wp2_with fail
  refine kn.mono ?_
  rintro e5 w5 ⟨rfl, H5, G5⟩
  have b5k := blk_grown bk G5 (by intro q; injection q with q; exact hkg q.symm)
  have b5p := blk_grown p4 G5 (by intro q; injection q with q; exact hpg q.symm)
  replace G5 := G4.trans G5
  clear kn bk p4 G4 H4
  obtain ⟨n2, ⟨ra, rb⟩⟩ := N2
  have HQ2 := HQ.out
  dsimp only at H5 kd HQ2
  have HQQ := Lib.hid HQ2
  clear HQ2 HQ HN1 HN2
  have r0 := cell_regrown (show w5.cell? ⟨g, 0, none⟩ = some (.string s) from (blk_cell H5.blk 0).trans rfl)
  have r1 := cell_regrown (show w5.cell? ⟨g, 1, none⟩ = some (.int .i64 ra) from (blk_cell H5.blk 1).trans rfl)
  have r2 := cell_regrown (show w5.cell? ⟨kb, 1, none⟩ = some (.int .i64 x.type) from (blk_cell b5k 1).trans rfl)
  go_upto_region 4 with (fail)
  refine wp_region_quiet_below (by kernel_rfl) (by kernel_rfl) ?_
  repeat (go_big_quiet_step (exact Calls.regrown_of (kd _)))
  refine wpQuiet_nil ?_
  intro _ hw'
  obtain ⟨⟨dq, osq⟩, hw''⟩ := hw'
  subst hw''
  have B6 := below_regrown w5 dq osq
  have b6 := blk_below H5.blk B6
  have k6 := blk_below b5k B6
  have p6 := blk_below b5p B6
  have G6 := G5.trans (grown_below B6 (some g))
  clear kd r0 r1 r2 H5 b5k b5p G5 B6
  generalize Go.Sort.grow (redrawn w5 dq) osq = w6 at *
  dsimp only at b6
  have d1 : w6.cell? ⟨g, 1, none⟩ = some (.int .i64 ra) := (blk_cell b6 1).trans rfl
  have d2 : w6.cell? ⟨g, 2, none⟩ = some (.bool rb) := (blk_cell b6 2).trans rfl
  have f1 := blk_frozen b6 1
  have f2 := blk_frozen b6 2
  have x0 : w6.cell? ⟨w.heap.size, 0, none⟩ = some (.string ⟨#[]⟩) := (blk_cell p6 0).trans rfl
  have x1 : w6.cell? ⟨w.heap.size, 1, none⟩ = some (.int .i64 0) := (blk_cell p6 1).trans rfl
  have x2 : w6.cell? ⟨w.heap.size, 2, none⟩ = some (.int .i64 0) := (blk_cell p6 2).trans rfl
  have x3 : w6.cell? ⟨w.heap.size, 3, none⟩ = some (.int .i64 0) := (blk_cell p6 3).trans rfl
  have x4 : w6.cell? ⟨w.heap.size, 4, none⟩ = some (.string ⟨#[]⟩) := (blk_cell p6 4).trans rfl
  have y0 := blk_frozen p6 0
  have y1 := blk_frozen p6 1
  have y2 := blk_frozen p6 2
  have y3 := blk_frozen p6 3
  have y4 := blk_frozen p6 4
  by_cases hbad : (rb || e != 0) = true
  · have hv : q = zR ∧ r' = ⟨ra, true⟩ := by
      have := HQQ.out
      rw [if_pos hbad] at this
      injection this with this
      injection this with h1 h2
      exact ⟨h1.symm, h2.symm⟩
    obtain ⟨rfl, rfl⟩ := hv
    clear HQQ
    have bf := blk_put b6 2 (.bool true) rfl
    have pf := blk_set_ne (p := ⟨g, 2, none⟩) p6 (Ne.symm hpg) (.bool true)
    have hb2 : rb = true ∨ (rb = false ∧ e ≠ 0) := by cases rb <;> simp_all
    have pF := blk_put (blk_put (blk_put (blk_put (blk_put (pf) 0 (.string ⟨#[]⟩) rfl) 1 (.int .i64 0) rfl) 2 (.int .i64 0) rfl) 3 (.int .i64 0) rfl) 4 (.string ⟨#[]⟩) rfl
    have bF := blk_set_ne (p := ⟨w.heap.size, 4, none⟩) (blk_set_ne (p := ⟨w.heap.size, 3, none⟩) (blk_set_ne (p := ⟨w.heap.size, 2, none⟩) (blk_set_ne (p := ⟨w.heap.size, 1, none⟩) (blk_set_ne (p := ⟨w.heap.size, 0, none⟩) (bf) hpg (.string ⟨#[]⟩)) hpg (.int .i64 0)) hpg (.int .i64 0)) hpg (.int .i64 0)) hpg (.string ⟨#[]⟩)
    have GF := grown_far (p := ⟨w.heap.size, 4, none⟩) (grown_far (p := ⟨w.heap.size, 3, none⟩) (grown_far (p := ⟨w.heap.size, 2, none⟩) (grown_far (p := ⟨w.heap.size, 1, none⟩) (grown_far (p := ⟨w.heap.size, 0, none⟩) (grown_set' G6 2 (.bool true)) (Nat.le_refl _) (.string ⟨#[]⟩)) (Nat.le_refl _) (.int .i64 0)) (Nat.le_refl _) (.int .i64 0)) (Nat.le_refl _) (.int .i64 0)) (Nat.le_refl _) (.string ⟨#[]⟩)
    have e0 := (blk_cell pF 0).trans rfl
    have e1 := (blk_cell pF 1).trans rfl
    have e2 := (blk_cell pF 2).trans rfl
    have e3 := (blk_cell pF 3).trans rfl
    have e4 := (blk_cell pF 4).trans rfl
    rcases hb2 with rfl | ⟨rfl, he⟩
    · go_wp2
      exact bodyPost_ret (v := .agg #[.string ⟨#[]⟩, .int .i64 0, .int .i64 0, .int .i64 0, .string ⟨#[]⟩]) (by simp [results, Try.results68, go_sem, e0, e1, e2, e3, e4]) rfl ⟨rfl, ⟨bF⟩, GF⟩
    · have q1 : (e == 0) = false := by simp [he]
      go_wp2
      exact bodyPost_ret (v := .agg #[.string ⟨#[]⟩, .int .i64 0, .int .i64 0, .int .i64 0, .string ⟨#[]⟩]) (by simp [results, Try.results68, go_sem, e0, e1, e2, e3, e4]) rfl ⟨rfl, ⟨bF⟩, GF⟩
  · have hb2 : rb = false ∧ e = 0 := by
      cases rb with
      | true => simp at hbad
      | false => simpa using hbad
    obtain ⟨rfl, rfl⟩ := hb2
    have hv := HQQ.out
    rw [if_neg hbad] at hv
    injection hv with hv
    injection hv with h1 h2
    clear HQQ hbad
    have b7 := blk_put (blk_put b6 2 (.bool false) rfl) 1 (.int .i64 (wrap64 (ra + n2))) rfl
    have k7 := blk_set_ne (p := ⟨g, 1, none⟩) (blk_set_ne (p := ⟨g, 2, none⟩) k6 (Ne.symm hkg) (.bool false)) (Ne.symm hkg) (.int .i64 (wrap64 (ra + n2)))
    have p7 := blk_set_ne (p := ⟨g, 1, none⟩) (blk_set_ne (p := ⟨g, 2, none⟩) p6 (Ne.symm hpg) (.bool false)) (Ne.symm hpg) (.int .i64 (wrap64 (ra + n2)))
    have G7 := grown_set' (grown_set' G6 2 (.bool false)) 1 (.int .i64 (wrap64 (ra + n2)))
    have k8 := blk_put k7 4 (.string d) rfl
    have b8 := blk_set_ne (p := ⟨kb, 4, none⟩) b7 hkg (.string d)
    have p8 := blk_set_ne (p := ⟨kb, 4, none⟩) p7 hkp' (.string d)
    have G8 := grown_far (p := ⟨kb, 4, none⟩) G7 (Nat.le_of_lt hkp) (.string d)
    have pF := blk_put (blk_put (blk_put (blk_put (blk_put (p8) 0 (.string x.name) rfl) 1 (.int .i64 x.type) rfl) 2 (.int .i64 x.cls) rfl) 3 (.int .i64 n1) rfl) 4 (.string d) rfl
    have bF := blk_set_ne (p := ⟨w.heap.size, 4, none⟩) (blk_set_ne (p := ⟨w.heap.size, 3, none⟩) (blk_set_ne (p := ⟨w.heap.size, 2, none⟩) (blk_set_ne (p := ⟨w.heap.size, 1, none⟩) (blk_set_ne (p := ⟨w.heap.size, 0, none⟩) (b8) hpg (.string x.name)) hpg (.int .i64 x.type)) hpg (.int .i64 x.cls)) hpg (.int .i64 n1)) hpg (.string d)
    have GF := grown_far (p := ⟨w.heap.size, 4, none⟩) (grown_far (p := ⟨w.heap.size, 3, none⟩) (grown_far (p := ⟨w.heap.size, 2, none⟩) (grown_far (p := ⟨w.heap.size, 1, none⟩) (grown_far (p := ⟨w.heap.size, 0, none⟩) (G8) (Nat.le_refl _) (.string x.name)) (Nat.le_refl _) (.int .i64 x.type)) (Nat.le_refl _) (.int .i64 x.cls)) (Nat.le_refl _) (.int .i64 n1)) (Nat.le_refl _) (.string d)
    have e0 := (blk_cell pF 0).trans rfl
    have e1 := (blk_cell pF 1).trans rfl
    have e2 := (blk_cell pF 2).trans rfl
    have e3 := (blk_cell pF 3).trans rfl
    have e4 := (blk_cell pF 4).trans rfl
    have l0 := (blk_cell k8 0).trans rfl
    have l1 := (blk_cell k8 1).trans rfl
    have l2 := (blk_cell k8 2).trans rfl
    have l3 := (blk_cell k8 3).trans rfl
    have l4 := (blk_cell k8 4).trans rfl
    have m4 := (blk_cell k7 4).trans rfl
    have m5 := blk_frozen k7 4
    have z0 := (blk_cell p8 0).trans rfl
    have z1 := (blk_cell p8 1).trans rfl
    have z2 := (blk_cell p8 2).trans rfl
    have z3 := (blk_cell p8 3).trans rfl
    have z4 := (blk_cell p8 4).trans rfl
    have v0 := blk_frozen p8 0
    have v1 := blk_frozen p8 1
    have v2 := blk_frozen p8 2
    have v3 := blk_frozen p8 3
    have v4 := blk_frozen p8 4
    go_wp2
    exact bodyPost_ret (v := .agg #[.string x.name, .int .i64 x.type, .int .i64 x.cls, .int .i64 n1, .string d]) (by simp [results, Try.results68, go_sem, e0, e1, e2, e3, e4]) rfl ⟨by rw [← h1], by rw [← h2]; exact ⟨bF⟩, GF⟩
end
end Go.Proofs.Ytjklgdpffmaamaa.Wm

namespace Go.Proofs.Ytjklgdpffmaamaa.Wm
open Go.RowKit Go.PlainAid Go.Maps Go.Proofs.Ytjklgdpffmaamaa.Base Go.Proofs.Ytjklgdpffmaamaa.Oct Go.Proofs.Ytjklgdpffmaamaa.Nm
open Go.Proofs.YtjklgdpffmaamaaW.PrintWords (blk_cell blk_below blk_put blk_frozen blk_ne blk_new blk_lt blk_grown LeO own_nil own_ne own_other own_setCell)
set_option linter.unusedVariables false
section
variable {P : Program} {ops : Array Oper} {rest : List Oper} {o : Oper} {a : Act} {Q : Exit → Act → World → Prop}
/-- append(v, x), x an element of the cells cs, which lies in the variadic's own block: what has grown. -/
theorem app_elem {W : World} (base : Nat) (hgd : o.guard = none) (s x : Operand) (t e : TypeId) (z : Value) (size bytes : Nat)
    (ho : o.op = .call { callee := .builtin .append, args := #[s, x], argTypes := #[t, t] })
    (ht : P.underlying t = some (.slice e)) (hinfo : (P.info? e).map (fun i => (i.zero, i.size, i.bytes)) = some (some z, size, bytes)) (hz : z.cells.size = size) (hsz : 0 < size)
    {v : Value} {n : Nat} {xs : List Value} (HO : W.ownsRow base e size v n xs) (cs : Array Value) (hs : a.eval s = v) (hx : a.eval x = .slice (some ⟨W.heap.size, 0, none⟩) 1 1)
    (hc : cs.size = size) (h1 : ∀ u ∈ cs.toList, u.oneCell' = true) (hbase : base ≤ W.heap.size) (hn : n + 1 ≤ 140737488355328) (hl : (n + 1) * bytes ≤ 140737488355328)
    (h : ∀ v1 w1, w1.ownsRow base e size v1 (n + 1) (xs ++ cs.toList) → (W.alloc (.cells cs e)).grownBy w1 v.ownBlock → wpList P ops Q rest (a.put o.dst v1) w1) :
    wpList P ops Q (o :: rest) a (W.alloc (.cells cs e)) := by
  obtain ⟨i0, hi, hzz⟩ := Option.map_eq_some_iff.1 hinfo
  simp only [Prod.mk.injEq] at hzz
  obtain ⟨hz0, hz1, hz2⟩ := hzz
  refine wpList_append_own (W.alloc (.cells cs e)) hgd s x t ho base e i0 z size bytes ht hi hz0 hz1 hz2 hz hsz v n xs hs (HO.alloc _) ⟨W.heap.size, 0, none⟩ 1 1 cs.toList hx (by simp [hc])
    (World.news_of_block (cs := cs) (t := e) (fr := (0, 0)) (heap_alloc_new W _)) h1 (by simp only [maxLen]; omega) hl (by simp; omega) ?_
  intro v1 w1 hown hg _
  exact h v1 w1 hown hg
end
theorem grown_own {w W w1 : World} {g : Nat} {row : Option Nat} (h : w.grownBy W (some g)) (k : W.grownBy w1 row) (hr : ∀ b, row = some b → w.heap.size ≤ b) : w.grownBy w1 (some g) :=
  ⟨k.os.trans h.os, k.tape.trans h.tape, k.output.trans h.output, Nat.le_trans h.size k.size, fun i hi hne => (k.block i (Nat.lt_of_lt_of_le hi h.size) (fun e => by have := hr i e.symm; omega)).trans (h.block i hi hne)⟩

theorem info_Q : (Try.prog.info? 40).map (fun i => (i.zero, i.size, i.bytes)) = some (some (.agg #[.string ⟨#[]⟩, .int .i64 0, .int .i64 0]), 3, 32) := by kernel_rfl
abbrev cellQ (q : Qn) : Array Value := #[.string q.name, .int .i64 q.type, .int .i64 q.cls]
def cellsQ : List Qn → List Value
  | [] => []
  | q :: qs => (cellQ q).toList ++ cellsQ qs
theorem cellsQ_app (a b : List Qn) : cellsQ (a ++ b) = cellsQ a ++ cellsQ b := by
  induction a with
  | nil => rfl
  | cons p a ih => simp [cellsQ, ih]
def loopQ (k : Nat) (s : ByteArray) : Nat → Rs → List Qn → Option (List Qn × Rs)
  | 0, r, acc => some (acc, r)
  | n + 1, r, acc => if r.bad then some (acc, r) else (questV k s r).bind fun x => loopQ k s n x.2 (acc ++ [x.1])
/-- So many that are read. -/
def listQ (k : Nat) (s : ByteArray) (n : Nat) (r : Rs) : Option (List Qn × Rs) := loopQ k s n ⟨r.at_, r.bad || decide (64 < n)⟩ []
section
variable {w : World} {g : Nat} {s : ByteArray} {r : Rs}
set_option maxHeartbeats 4000000 in
set_option maxRecDepth 100000 in
theorem listQc (H : RdAt w g s r) (hs : s.size ≤ 4096) (n : Nat) (hn : n ≤ 65535) {k : Nat} {out : List Qn} {r' : Rs} (hq : listQ k s n r = some (out, r')) :
    Calls Try.prog 65 #[.pointer (some ⟨g, 0, none⟩), .int .i64 (n : Int), .func (.func 66) #[] #[]] w fun e w' => ∃ v, e = .returned v ∧ w'.ownsRow w.heap.size 40 3 v out.length (cellsQ out) ∧ RdAt w' g s r' ∧ w.grownBy w' (some g) := by
  have hglt := blk_lt H.blk
  obtain ⟨ra, rb⟩ := r
  have hblk := H.blk
  dsimp only at hblk
  have c2 : w.cell? ⟨g, 2, none⟩ = some (.bool rb) := (blk_cell hblk 2).trans rfl
  have f2 := blk_frozen hblk 2
  obtain ⟨b1, hb1⟩ : ∃ b, (rb || decide (64 < n)) = b := ⟨_, rfl⟩
  have h1 : RdAt (w.setCell ⟨g, 2, none⟩ (.bool b1)) g s ⟨ra, b1⟩ := ⟨blk_put hblk 2 _ rfl⟩
  have G1 := grown_set w g 2 (.bool b1)
  unfold listQ at hq
  dsimp only at hq
  rw [hb1] at hq
  have hsz1 : (w.setCell ⟨g, 2, none⟩ (.bool b1)).heap.size = w.heap.size := by simp [World.setCell]
  have hacc : b1 = false → n ≤ 64 := by
    intro e
    rw [e] at hb1
    cases rb <;> simp at hb1
    omega
  have hw : rb = true ∧ b1 = true ∨ rb = false ∧ 64 < n ∧ b1 = true ∨ rb = false ∧ ¬ 64 < n ∧ b1 = false := by
    cases rb with
    | true => exact .inl ⟨rfl, by simpa using hb1.symm⟩
    | false =>
      by_cases h : 64 < n
      · exact .inr (.inl ⟨rfl, h, by rw [← hb1]; simp [h]⟩)
      · exact .inr (.inr ⟨rfl, h, by rw [← hb1]; simp; omega⟩)
  have HQ := Lib.hid hq
  have HACC := Lib.hid hacc
  have HW := Lib.hid hw
  clear hq hacc hb1 hw
  go_enter Try.func65, Try.ntmps65
  go_upto_region 1 with (fail)
  go_cut [16] (fun v16 wc => wc = w.setCell ⟨g, 2, none⟩ (.bool b1))
  case first =>
    rcases HW.out with ⟨e1, e2⟩ | ⟨e1, h64, e2⟩ | ⟨e1, h64, e2⟩
    · subst e1; subst e2
      go_wp2
      go_meet
      case rel => rfl
    · subst e1; subst e2
      have qn : decide ((64 : Int) < (n : Int)) = true := by simp; omega
      go_wp2
      go_meet
      case rel => rfl
    · subst e1; subst e2
      have qn : decide ((64 : Int) < (n : Int)) = false := by simp; omega
      go_wp2
      go_meet
      case rel => rfl
  case rest =>
  subst hcut
  generalize w.setCell ⟨g, 2, none⟩ (.bool b1) = w1 at *
  clear c2 f2 hblk H
  go_wp2_with fail
  go_loopg [1, 7] (n + 1) (fun kk v1 v7 wr => ∃ (m : Nat) (rr : Rs) (acc : List Qn), v1 = .int .i64 (m : Int) ∧ kk = m + 1 ∧ m ≤ n ∧ loopQ k s m rr acc = some (out, r') ∧ RdAt wr g s rr ∧ wr.ownsRow w.heap.size 40 3 v7 acc.length (cellsQ acc) ∧ w.grownBy wr (some g) ∧ acc.length ≤ 64 ∧ (rr.bad = false → acc.length + m ≤ 64))
  case atStart => exact ⟨n, ⟨ra, b1⟩, [], rfl, rfl, Nat.le_refl _, HQ.out, h1, own_nil _ _ _ _, G1, by simp, fun e => by have := HACC.out e; simpa using this⟩
  case round =>
    obtain ⟨m, rr, acc, rfl, hkk, hmn, hlp, HR, hown, hG, hal, hbd⟩ := hrel
    have HLP := Lib.hid hlp
    have HBD := Lib.hid hbd
    clear hlp hbd
    obtain ⟨ra2, rb2⟩ := rr
    have c2 : wr.cell? ⟨g, 2, none⟩ = some (.bool rb2) := (blk_cell HR.blk 2).trans rfl
    have hsz := hG.size
    cases m with
    | zero =>
      have q0 : decide ((0 : Int) < ((0 : Nat) : Int)) = false := by decide
      have hl := HLP.out
      unfold loopQ at hl
      injection hl with hl
      injection hl with e1 e2
      go_wp2
      go_ret
      exact ⟨_, rfl, by rw [← e1]; exact hown, by rw [← e2]; exact HR, hG⟩
    | succ m =>
      have q0 : decide ((0 : Int) < ((m + 1 : Nat) : Int)) = true := by simp
      cases rb2 with
      | true =>
        have hl := HLP.out
        unfold loopQ at hl
        rw [if_pos rfl] at hl
        injection hl with hl
        injection hl with e1 e2
        go_wp2
        go_ret
        exact ⟨_, rfl, by rw [← e1]; exact hown, by rw [← e2]; exact HR, hG⟩
      | false =>
        have hl := HLP.out
        unfold loopQ at hl
        rw [if_neg (by simp)] at hl
        obtain ⟨⟨q, r2⟩, hx, hl⟩ := Option.bind_eq_some_iff.1 hl
        have kq := questc HR hs hx
        have hb := HBD.out rfl
        have HL := Lib.hid hl
        clear hl hx
        go_wp2_with fail
        refine kq.mono ?_
        rintro e w2 ⟨rfl, H2, G2⟩
        have hne := own_ne hown HR.blk (by decide)
        have hown2 := own_other hown G2 (.inr (Ne.symm hne))
        replace G2 := hG.trans G2
        have s2 := G2.size
        have Bz : ∀ o, Below w2.heap.size w2 (w2.alloc o) := fun o => (Below.refl _ _).alloc (Nat.le_refl _) o
        clear kq hown HR hG
        go_wp2_with (at_builtin; refine app_elem w.heap.size rfl _ _ 24 40 (.agg #[.string ⟨#[]⟩, .int .i64 0, .int .i64 0]) 3 32 rfl Try.underlying24 info_Q rfl (by decide) hown2 (cellQ q) rfl rfl rfl ?h1 s2 ?hn ?hl ?_)
        case h1 => exact ⟨rfl, rfl, rfl⟩
        case hn => omega
        case hl => omega
        intro v3 w3 hown3 hg3
        have H2a := H2.below (Bz (.cells (cellQ q) 40))
        have hown2a := own_other hown2 (grown_below (Bz (.cells (cellQ q) 40)) none) (by cases u7.ownBlock <;> simp)
        have hne2 := own_ne hown2a H2a.blk (by decide)
        have H3 : RdAt w3 g s r2 := ⟨blk_grown H2a.blk hg3 hne2⟩
        have G3 := grown_own (grown_alloc' G2 (.cells (cellQ q) 40)) hg3 (fun b e => Sl.own_base hown2 b e)
        go_wp2
        go_roundg (m + 1)
        case measure => omega
        case rel =>
          refine ⟨m, r2, acc ++ [q], ?_, rfl, by omega, HL.out, H3, ?_, G3, by simp; omega, fun _ => by simp; omega⟩
          · first | rfl | (congr 1; omega)
          · rw [cellsQ_app]; simpa [cellsQ] using hown3
end

theorem info_R : (Try.prog.info? 53).map (fun i => (i.zero, i.size, i.bytes)) = some (some (.agg #[.string ⟨#[]⟩, .int .i64 0, .int .i64 0, .int .i64 0, .string ⟨#[]⟩]), 5, 56) := by kernel_rfl
abbrev cellR (q : Rr) : Array Value := #[.string q.name, .int .i64 q.type, .int .i64 q.cls, .int .i64 q.ttl, .string q.data]
def cellsR : List Rr → List Value
  | [] => []
  | q :: qs => (cellR q).toList ++ cellsR qs
theorem cellsR_app (a b : List Rr) : cellsR (a ++ b) = cellsR a ++ cellsR b := by
  induction a with
  | nil => rfl
  | cons p a ih => simp [cellsR, ih]
def loopR (k : Nat) (s : ByteArray) : Nat → Rs → List Rr → Option (List Rr × Rs)
  | 0, r, acc => some (acc, r)
  | n + 1, r, acc => if r.bad then some (acc, r) else (recV k s r).bind fun x => loopR k s n x.2 (acc ++ [x.1])
/-- So many that are read. -/
def listR (k : Nat) (s : ByteArray) (n : Nat) (r : Rs) : Option (List Rr × Rs) := loopR k s n ⟨r.at_, r.bad || decide (64 < n)⟩ []
section
variable {w : World} {g : Nat} {s : ByteArray} {r : Rs}
set_option maxHeartbeats 4000000 in
set_option maxRecDepth 100000 in
theorem listRc (H : RdAt w g s r) (hs : s.size ≤ 4096) (n : Nat) (hn : n ≤ 65535) {k : Nat} {out : List Rr} {r' : Rs} (hq : listR k s n r = some (out, r')) :
    Calls Try.prog 67 #[.pointer (some ⟨g, 0, none⟩), .int .i64 (n : Int), .func (.func 68) #[] #[]] w fun e w' => ∃ v, e = .returned v ∧ w'.ownsRow w.heap.size 53 5 v out.length (cellsR out) ∧ RdAt w' g s r' ∧ w.grownBy w' (some g) := by
  have hglt := blk_lt H.blk
  obtain ⟨ra, rb⟩ := r
  have hblk := H.blk
  dsimp only at hblk
  have c2 : w.cell? ⟨g, 2, none⟩ = some (.bool rb) := (blk_cell hblk 2).trans rfl
  have f2 := blk_frozen hblk 2
  obtain ⟨b1, hb1⟩ : ∃ b, (rb || decide (64 < n)) = b := ⟨_, rfl⟩
  have h1 : RdAt (w.setCell ⟨g, 2, none⟩ (.bool b1)) g s ⟨ra, b1⟩ := ⟨blk_put hblk 2 _ rfl⟩
  have G1 := grown_set w g 2 (.bool b1)
  unfold listR at hq
  dsimp only at hq
  rw [hb1] at hq
  have hsz1 : (w.setCell ⟨g, 2, none⟩ (.bool b1)).heap.size = w.heap.size := by simp [World.setCell]
  have hacc : b1 = false → n ≤ 64 := by
    intro e
    rw [e] at hb1
    cases rb <;> simp at hb1
    omega
  have hw : rb = true ∧ b1 = true ∨ rb = false ∧ 64 < n ∧ b1 = true ∨ rb = false ∧ ¬ 64 < n ∧ b1 = false := by
    cases rb with
    | true => exact .inl ⟨rfl, by simpa using hb1.symm⟩
    | false =>
      by_cases h : 64 < n
      · exact .inr (.inl ⟨rfl, h, by rw [← hb1]; simp [h]⟩)
      · exact .inr (.inr ⟨rfl, h, by rw [← hb1]; simp; omega⟩)
  have HQ := Lib.hid hq
  have HACC := Lib.hid hacc
  have HW := Lib.hid hw
  clear hq hacc hb1 hw
  go_enter Try.func67, Try.ntmps67
  go_upto_region 1 with (fail)
  go_cut [16] (fun v16 wc => wc = w.setCell ⟨g, 2, none⟩ (.bool b1))
  case first =>
    rcases HW.out with ⟨e1, e2⟩ | ⟨e1, h64, e2⟩ | ⟨e1, h64, e2⟩
    · subst e1; subst e2
      go_wp2
      go_meet
      case rel => rfl
    · subst e1; subst e2
      have qn : decide ((64 : Int) < (n : Int)) = true := by simp; omega
      go_wp2
      go_meet
      case rel => rfl
    · subst e1; subst e2
      have qn : decide ((64 : Int) < (n : Int)) = false := by simp; omega
      go_wp2
      go_meet
      case rel => rfl
  case rest =>
  subst hcut
  generalize w.setCell ⟨g, 2, none⟩ (.bool b1) = w1 at *
  clear c2 f2 hblk H
  go_wp2_with fail
  go_loopg [1, 7] (n + 1) (fun kk v1 v7 wr => ∃ (m : Nat) (rr : Rs) (acc : List Rr), v1 = .int .i64 (m : Int) ∧ kk = m + 1 ∧ m ≤ n ∧ loopR k s m rr acc = some (out, r') ∧ RdAt wr g s rr ∧ wr.ownsRow w.heap.size 53 5 v7 acc.length (cellsR acc) ∧ w.grownBy wr (some g) ∧ acc.length ≤ 64 ∧ (rr.bad = false → acc.length + m ≤ 64))
  case atStart => exact ⟨n, ⟨ra, b1⟩, [], rfl, rfl, Nat.le_refl _, HQ.out, h1, own_nil _ _ _ _, G1, by simp, fun e => by have := HACC.out e; simpa using this⟩
  case round =>
    obtain ⟨m, rr, acc, rfl, hkk, hmn, hlp, HR, hown, hG, hal, hbd⟩ := hrel
    have HLP := Lib.hid hlp
    have HBD := Lib.hid hbd
    clear hlp hbd
    obtain ⟨ra2, rb2⟩ := rr
    have c2 : wr.cell? ⟨g, 2, none⟩ = some (.bool rb2) := (blk_cell HR.blk 2).trans rfl
    have hsz := hG.size
    cases m with
    | zero =>
      have q0 : decide ((0 : Int) < ((0 : Nat) : Int)) = false := by decide
      have hl := HLP.out
      unfold loopR at hl
      injection hl with hl
      injection hl with e1 e2
      go_wp2
      go_ret
      exact ⟨_, rfl, by rw [← e1]; exact hown, by rw [← e2]; exact HR, hG⟩
    | succ m =>
      have q0 : decide ((0 : Int) < ((m + 1 : Nat) : Int)) = true := by simp
      cases rb2 with
      | true =>
        have hl := HLP.out
        unfold loopR at hl
        rw [if_pos rfl] at hl
        injection hl with hl
        injection hl with e1 e2
        go_wp2
        go_ret
        exact ⟨_, rfl, by rw [← e1]; exact hown, by rw [← e2]; exact HR, hG⟩
      | false =>
        have hl := HLP.out
        unfold loopR at hl
        rw [if_neg (by simp)] at hl
        obtain ⟨⟨q, r2⟩, hx, hl⟩ := Option.bind_eq_some_iff.1 hl
        have kq := recc HR hs hx
        have hb := HBD.out rfl
        have HL := Lib.hid hl
        clear hl hx
        go_wp2_with fail
        refine kq.mono ?_
        rintro e w2 ⟨rfl, H2, G2⟩
        have hne := own_ne hown HR.blk (by decide)
        have hown2 := own_other hown G2 (.inr (Ne.symm hne))
        replace G2 := hG.trans G2
        have s2 := G2.size
        have Bz : ∀ o, Below w2.heap.size w2 (w2.alloc o) := fun o => (Below.refl _ _).alloc (Nat.le_refl _) o
        clear kq hown HR hG
        go_wp2_with (at_builtin; refine app_elem w.heap.size rfl _ _ 25 53 (.agg #[.string ⟨#[]⟩, .int .i64 0, .int .i64 0, .int .i64 0, .string ⟨#[]⟩]) 5 56 rfl Try.underlying25 info_R rfl (by decide) hown2 (cellR q) rfl rfl rfl ?h1 s2 ?hn ?hl ?_)
        case h1 => exact ⟨rfl, rfl, rfl, rfl, rfl⟩
        case hn => omega
        case hl => omega
        intro v3 w3 hown3 hg3
        have H2a := H2.below (Bz (.cells (cellR q) 53))
        have hown2a := own_other hown2 (grown_below (Bz (.cells (cellR q) 53)) none) (by cases u7.ownBlock <;> simp)
        have hne2 := own_ne hown2a H2a.blk (by decide)
        have H3 : RdAt w3 g s r2 := ⟨blk_grown H2a.blk hg3 hne2⟩
        have G3 := grown_own (grown_alloc' G2 (.cells (cellR q) 53)) hg3 (fun b e => Sl.own_base hown2 b e)
        go_wp2
        go_roundg (m + 1)
        case measure => omega
        case rel =>
          refine ⟨m, r2, acc ++ [q], ?_, rfl, by omega, HL.out, H3, ?_, G3, by simp; omega, fun _ => by simp; omega⟩
          · first | rfl | (congr 1; omega)
          · rw [cellsR_app]; simpa [cellsR] using hown3
end
end Go.Proofs.Ytjklgdpffmaamaa.Wm

namespace Go.Proofs.Ytjklgdpffmaamaa.Wm
open Go.RowKit Go.PlainAid Go.Maps Go.Proofs.Ytjklgdpffmaamaa.Base Go.Proofs.Ytjklgdpffmaamaa.Oct Go.Proofs.Ytjklgdpffmaamaa.Nm
open Go.Proofs.YtjklgdpffmaamaaW.PrintWords (blk_cell blk_below blk_put blk_frozen blk_ne blk_new blk_lt blk_grown LeO own_nil own_ne own_other own_setCell)
set_option linter.unusedVariables false
structure Got where
  h : Hd.Head
  qs : List Qn
  an : List Rr
  ns : List Rr
  ar : List Rr
  e : Int
def got0 (e : Int) : Got := ⟨Hd.head0, [], [], [], [], e⟩
/-- What is read. -/
def getV (k : Nat) (s : ByteArray) : Option Got :=
  if 4096 < s.size then some (got0 701) else if s.size < 12 then some (got0 700) else
    (listQ k s (be2 s 4).toNat ⟨12, false⟩).bind fun q => (listR k s (be2 s 6).toNat q.2).bind fun a => (listR k s (be2 s 8).toNat a.2).bind fun b => (listR k s (be2 s 10).toNat b.2).bind fun c =>
      if c.2.bad || c.2.at_ != (s.size : Int) then some (got0 700) else some ⟨Hd.getH s, q.1, a.1, b.1, c.1, 0⟩
abbrev mz : Array Value := #[.int .i64 0, .bool false, .int .i64 0, .bool false, .bool false, .bool false, .bool false, .int .i64 0, .int .i64 0, .slice none 0 0, .slice none 0 0, .slice none 0 0, .slice none 0 0]
/-- What the answer is, and where its rows lie. -/
def GetPost (s : ByteArray) (w : World) (r : Got) (e : Ending) (w' : World) : Prop :=
  ∃ vq va vn vr, e = .returned (.tuple #[.agg #[.int .i64 r.h.id, .bool r.h.qr, .int .i64 r.h.op, .bool r.h.aa, .bool r.h.tc, .bool r.h.rd, .bool r.h.ra, .int .i64 r.h.z, .int .i64 r.h.rc, vq, va, vn, vr], .int .i64 r.e]) ∧
    w'.ownsRow w.heap.size 40 3 vq r.qs.length (cellsQ r.qs) ∧ w'.ownsRow w.heap.size 53 5 va r.an.length (cellsR r.an) ∧ w'.ownsRow w.heap.size 53 5 vn r.ns.length (cellsR r.ns) ∧ w'.ownsRow w.heap.size 53 5 vr r.ar.length (cellsR r.ar) ∧
    (∀ k, va.ownBlock = some k → some k ≠ vn.ownBlock ∧ some k ≠ vr.ownBlock) ∧ (∀ k, vn.ownBlock = some k → some k ≠ va.ownBlock ∧ some k ≠ vr.ownBlock) ∧ (∀ k, vr.ownBlock = some k → some k ≠ va.ownBlock ∧ some k ≠ vn.ownBlock) ∧ Below w.heap.size w w'
theorem post0 (s : ByteArray) (w w' : World) (e : Int) (hb : Below w.heap.size w w') : GetPost s w (got0 e) (.returned (.tuple #[.agg mz, .int .i64 e])) w' :=
  ⟨_, _, _, _, rfl, own_nil _ _ _ _, own_nil _ _ _ _, own_nil _ _ _ _, own_nil _ _ _ _, fun k h => by simp [Value.ownBlock] at h, fun k h => by simp [Value.ownBlock] at h, fun k h => by simp [Value.ownBlock] at h, hb⟩
/-- Values written one behind the other into a block. -/
def putAll (w : World) (g : Nat) : Nat → List Value → World
  | _, [] => w
  | i, v :: vs => putAll (w.setCell ⟨g, i, none⟩ v) g (i + 1) vs
def setAll (cs : Array Value) : Nat → List Value → Array Value
  | _, [] => cs
  | i, v :: vs => setAll (cs.setIfInBounds i v) (i + 1) vs
theorem putAll_ne {w : World} {g k : Nat} (i : Nat) (vs : List Value) (h : k ≠ g) : (putAll w g i vs).heap[k]? = w.heap[k]? := by
  induction vs generalizing w i with
  | nil => rfl
  | cons v vs ih => exact (ih (i + 1)).trans (Below.heap_setCell w _ v k h)
theorem putAll_blk {w : World} {g : Nat} {t : TypeId} {cs : Array Value} (i : Nat) (vs : List Value) (cs' : Array Value) (h : w.heap[g]? = some (.cells cs t (0, 0))) (e : setAll cs i vs = cs' := by rfl) : (putAll w g i vs).heap[g]? = some (.cells cs' t (0, 0)) := by
  subst e
  induction vs generalizing w i cs with
  | nil => exact h
  | cons v vs ih => exact ih (i + 1) (blk_put h i v rfl)
theorem putAll_own {w : World} {g b : Nat} {e : TypeId} {size n : Nat} {v : Value} {xs : List Value} (i : Nat) (vs : List Value) (h : w.ownsRow b e size v n xs) (hne : some g ≠ v.ownBlock) : (putAll w g i vs).ownsRow b e size v n xs := by
  induction vs generalizing w i with
  | nil => exact h
  | cons u vs ih => exact ih (i + 1) (own_setCell (p := ⟨g, i, none⟩) h hne u)
theorem putAll_grown {w0 w : World} {g : Nat} {row : Option Nat} (i : Nat) (vs : List Value) (h : w0.grownBy w row) (hg : w0.heap.size ≤ g) : w0.grownBy (putAll w g i vs) row := by
  induction vs generalizing w i with
  | nil => exact h
  | cons u vs ih => exact ih (i + 1) (grown_far (p := ⟨g, i, none⟩) h hg u)
theorem own_lower {w : World} {b b' : Nat} {e : TypeId} {size n : Nat} {v : Value} {xs : List Value} (h : w.ownsRow b e size v n xs) (hb : b' ≤ b) : w.ownsRow b' e size v n xs := by
  refine ⟨h.1, ?_⟩
  rcases h.2 with h2 | ⟨k, cap, cur, rfl, hg, r⟩
  · exact .inl h2
  · exact .inr ⟨k, cap, cur, rfl, Nat.le_trans hb hg, r⟩
theorem own_lt {w : World} {b : Nat} {e : TypeId} {size n : Nat} {v : Value} {xs : List Value} (h : w.ownsRow b e size v n xs) (k : Nat) (hk : v.ownBlock = some k) : k < w.heap.size := by
  obtain ⟨cs, hb⟩ := Go.Proofs.YtjklgdpffmaamaaW.PrintWords.own_typed h k hk
  exact blk_lt hb
set_option maxHeartbeats 8000000 in
set_option maxRecDepth 100000 in
theorem getc (s : ByteArray) (w : World) (hs : s.size ≤ 9223372036854775000) {k : Nat} {r : Got} (hq : getV k s = some r) : Calls Try.prog 35 #[.string s] w (GetPost s w r) := by
  have HQ := Lib.hid hq
  clear hq
  by_cases h4 : 4096 < s.size
  · have hr : r = got0 701 := by have := HQ.out; unfold getV at this; rw [if_pos h4] at this; exact (Option.some.inj this).symm
    subst hr
    have q : decide ((4096 : Int) < (s.size : Int)) = true := by simp; omega
    have pz := blk_new w (.cells mz 27)
    go_enter Try.func35, Try.ntmps35
    go_wp2
    have e0 := (blk_cell pz 0).trans rfl
    have e1 := (blk_cell pz 1).trans rfl
    have e2 := (blk_cell pz 2).trans rfl
    have e3 := (blk_cell pz 3).trans rfl
    have e4 := (blk_cell pz 4).trans rfl
    have e5 := (blk_cell pz 5).trans rfl
    have e6 := (blk_cell pz 6).trans rfl
    have e7 := (blk_cell pz 7).trans rfl
    have e8 := (blk_cell pz 8).trans rfl
    have e9 := (blk_cell pz 9).trans rfl
    have e10 := (blk_cell pz 10).trans rfl
    have e11 := (blk_cell pz 11).trans rfl
    have e12 := (blk_cell pz 12).trans rfl
    exact bodyPost_ret (v := .tuple #[.agg mz, .int .i64 701]) (by simp [results, Try.results35, go_sem, e0, e1, e2, e3, e4, e5, e6, e7, e8, e9, e10, e11, e12]) rfl (post0 s w _ 701 ((Below.refl _ _).alloc (Nat.le_refl _) _))
  · have q : decide ((4096 : Int) < (s.size : Int)) = false := by simp; omega
    have Bp : Below w.heap.size w (w.alloc (.cells mz 27)) := (Below.refl _ _).alloc (Nat.le_refl _) _
    have pz := blk_new w (.cells mz 27)
    have sp : (w.alloc (.cells mz 27)).heap.size = w.heap.size + 1 := by simp
    have kg := Hd.got s (w.alloc (.cells mz 27)) hs
    by_cases h12 : s.size < 12
    · have hr : r = got0 700 := by have := HQ.out; unfold getV at this; rw [if_neg h4, if_pos h12] at this; exact (Option.some.inj this).symm
      subst hr
      have hE : Hd.gotE s = 600 := Hd.gotE_no (by omega)
      rw [hE] at kg
      clear HQ
      go_enter Try.func35, Try.ntmps35
      go_wp2_with fail
      refine kg.mono ?_
      rintro e w1 ⟨rfl, B1⟩
      have p1 := blk_below pz B1
      have BB := Bp.trans (B1.mono (by omega))
      clear kg pz Bp B1
      have pp : ((w1.alloc (.cells #[.int .i64 (Hd.gotH s).id, .bool (Hd.gotH s).qr, .int .i64 (Hd.gotH s).op, .bool (Hd.gotH s).aa, .bool (Hd.gotH s).tc, .bool (Hd.gotH s).rd, .bool (Hd.gotH s).ra, .int .i64 (Hd.gotH s).z, .int .i64 (Hd.gotH s).rc] 23)).alloc (.cells #[.int .i64 (Hd.gotC s 4), .int .i64 (Hd.gotC s 6), .int .i64 (Hd.gotC s 8), .int .i64 (Hd.gotC s 10)] 80)).heap[w.heap.size]? = some (.cells mz 27 (0, 0)) := Go.Proofs.YtjklgdpffmaamaaW.PrintWords.blk_alloc (Go.Proofs.YtjklgdpffmaamaaW.PrintWords.blk_alloc p1 _) _
      have x0 : ((w1.alloc (.cells #[.int .i64 (Hd.gotH s).id, .bool (Hd.gotH s).qr, .int .i64 (Hd.gotH s).op, .bool (Hd.gotH s).aa, .bool (Hd.gotH s).tc, .bool (Hd.gotH s).rd, .bool (Hd.gotH s).ra, .int .i64 (Hd.gotH s).z, .int .i64 (Hd.gotH s).rc] 23)).alloc (.cells #[.int .i64 (Hd.gotC s 4), .int .i64 (Hd.gotC s 6), .int .i64 (Hd.gotC s 8), .int .i64 (Hd.gotC s 10)] 80)).cell? ⟨w.heap.size, 0, none⟩ = some (.int .i64 0) := (blk_cell pp 0).trans rfl
      have x1 : ((w1.alloc (.cells #[.int .i64 (Hd.gotH s).id, .bool (Hd.gotH s).qr, .int .i64 (Hd.gotH s).op, .bool (Hd.gotH s).aa, .bool (Hd.gotH s).tc, .bool (Hd.gotH s).rd, .bool (Hd.gotH s).ra, .int .i64 (Hd.gotH s).z, .int .i64 (Hd.gotH s).rc] 23)).alloc (.cells #[.int .i64 (Hd.gotC s 4), .int .i64 (Hd.gotC s 6), .int .i64 (Hd.gotC s 8), .int .i64 (Hd.gotC s 10)] 80)).cell? ⟨w.heap.size, 1, none⟩ = some (.bool false) := (blk_cell pp 1).trans rfl
      have x2 : ((w1.alloc (.cells #[.int .i64 (Hd.gotH s).id, .bool (Hd.gotH s).qr, .int .i64 (Hd.gotH s).op, .bool (Hd.gotH s).aa, .bool (Hd.gotH s).tc, .bool (Hd.gotH s).rd, .bool (Hd.gotH s).ra, .int .i64 (Hd.gotH s).z, .int .i64 (Hd.gotH s).rc] 23)).alloc (.cells #[.int .i64 (Hd.gotC s 4), .int .i64 (Hd.gotC s 6), .int .i64 (Hd.gotC s 8), .int .i64 (Hd.gotC s 10)] 80)).cell? ⟨w.heap.size, 2, none⟩ = some (.int .i64 0) := (blk_cell pp 2).trans rfl
      have x3 : ((w1.alloc (.cells #[.int .i64 (Hd.gotH s).id, .bool (Hd.gotH s).qr, .int .i64 (Hd.gotH s).op, .bool (Hd.gotH s).aa, .bool (Hd.gotH s).tc, .bool (Hd.gotH s).rd, .bool (Hd.gotH s).ra, .int .i64 (Hd.gotH s).z, .int .i64 (Hd.gotH s).rc] 23)).alloc (.cells #[.int .i64 (Hd.gotC s 4), .int .i64 (Hd.gotC s 6), .int .i64 (Hd.gotC s 8), .int .i64 (Hd.gotC s 10)] 80)).cell? ⟨w.heap.size, 3, none⟩ = some (.bool false) := (blk_cell pp 3).trans rfl
      have x4 : ((w1.alloc (.cells #[.int .i64 (Hd.gotH s).id, .bool (Hd.gotH s).qr, .int .i64 (Hd.gotH s).op, .bool (Hd.gotH s).aa, .bool (Hd.gotH s).tc, .bool (Hd.gotH s).rd, .bool (Hd.gotH s).ra, .int .i64 (Hd.gotH s).z, .int .i64 (Hd.gotH s).rc] 23)).alloc (.cells #[.int .i64 (Hd.gotC s 4), .int .i64 (Hd.gotC s 6), .int .i64 (Hd.gotC s 8), .int .i64 (Hd.gotC s 10)] 80)).cell? ⟨w.heap.size, 4, none⟩ = some (.bool false) := (blk_cell pp 4).trans rfl
      have x5 : ((w1.alloc (.cells #[.int .i64 (Hd.gotH s).id, .bool (Hd.gotH s).qr, .int .i64 (Hd.gotH s).op, .bool (Hd.gotH s).aa, .bool (Hd.gotH s).tc, .bool (Hd.gotH s).rd, .bool (Hd.gotH s).ra, .int .i64 (Hd.gotH s).z, .int .i64 (Hd.gotH s).rc] 23)).alloc (.cells #[.int .i64 (Hd.gotC s 4), .int .i64 (Hd.gotC s 6), .int .i64 (Hd.gotC s 8), .int .i64 (Hd.gotC s 10)] 80)).cell? ⟨w.heap.size, 5, none⟩ = some (.bool false) := (blk_cell pp 5).trans rfl
      have x6 : ((w1.alloc (.cells #[.int .i64 (Hd.gotH s).id, .bool (Hd.gotH s).qr, .int .i64 (Hd.gotH s).op, .bool (Hd.gotH s).aa, .bool (Hd.gotH s).tc, .bool (Hd.gotH s).rd, .bool (Hd.gotH s).ra, .int .i64 (Hd.gotH s).z, .int .i64 (Hd.gotH s).rc] 23)).alloc (.cells #[.int .i64 (Hd.gotC s 4), .int .i64 (Hd.gotC s 6), .int .i64 (Hd.gotC s 8), .int .i64 (Hd.gotC s 10)] 80)).cell? ⟨w.heap.size, 6, none⟩ = some (.bool false) := (blk_cell pp 6).trans rfl
      have x7 : ((w1.alloc (.cells #[.int .i64 (Hd.gotH s).id, .bool (Hd.gotH s).qr, .int .i64 (Hd.gotH s).op, .bool (Hd.gotH s).aa, .bool (Hd.gotH s).tc, .bool (Hd.gotH s).rd, .bool (Hd.gotH s).ra, .int .i64 (Hd.gotH s).z, .int .i64 (Hd.gotH s).rc] 23)).alloc (.cells #[.int .i64 (Hd.gotC s 4), .int .i64 (Hd.gotC s 6), .int .i64 (Hd.gotC s 8), .int .i64 (Hd.gotC s 10)] 80)).cell? ⟨w.heap.size, 7, none⟩ = some (.int .i64 0) := (blk_cell pp 7).trans rfl
      have x8 : ((w1.alloc (.cells #[.int .i64 (Hd.gotH s).id, .bool (Hd.gotH s).qr, .int .i64 (Hd.gotH s).op, .bool (Hd.gotH s).aa, .bool (Hd.gotH s).tc, .bool (Hd.gotH s).rd, .bool (Hd.gotH s).ra, .int .i64 (Hd.gotH s).z, .int .i64 (Hd.gotH s).rc] 23)).alloc (.cells #[.int .i64 (Hd.gotC s 4), .int .i64 (Hd.gotC s 6), .int .i64 (Hd.gotC s 8), .int .i64 (Hd.gotC s 10)] 80)).cell? ⟨w.heap.size, 8, none⟩ = some (.int .i64 0) := (blk_cell pp 8).trans rfl
      have x9 : ((w1.alloc (.cells #[.int .i64 (Hd.gotH s).id, .bool (Hd.gotH s).qr, .int .i64 (Hd.gotH s).op, .bool (Hd.gotH s).aa, .bool (Hd.gotH s).tc, .bool (Hd.gotH s).rd, .bool (Hd.gotH s).ra, .int .i64 (Hd.gotH s).z, .int .i64 (Hd.gotH s).rc] 23)).alloc (.cells #[.int .i64 (Hd.gotC s 4), .int .i64 (Hd.gotC s 6), .int .i64 (Hd.gotC s 8), .int .i64 (Hd.gotC s 10)] 80)).cell? ⟨w.heap.size, 9, none⟩ = some (.slice none 0 0) := (blk_cell pp 9).trans rfl
      have x10 : ((w1.alloc (.cells #[.int .i64 (Hd.gotH s).id, .bool (Hd.gotH s).qr, .int .i64 (Hd.gotH s).op, .bool (Hd.gotH s).aa, .bool (Hd.gotH s).tc, .bool (Hd.gotH s).rd, .bool (Hd.gotH s).ra, .int .i64 (Hd.gotH s).z, .int .i64 (Hd.gotH s).rc] 23)).alloc (.cells #[.int .i64 (Hd.gotC s 4), .int .i64 (Hd.gotC s 6), .int .i64 (Hd.gotC s 8), .int .i64 (Hd.gotC s 10)] 80)).cell? ⟨w.heap.size, 10, none⟩ = some (.slice none 0 0) := (blk_cell pp 10).trans rfl
      have x11 : ((w1.alloc (.cells #[.int .i64 (Hd.gotH s).id, .bool (Hd.gotH s).qr, .int .i64 (Hd.gotH s).op, .bool (Hd.gotH s).aa, .bool (Hd.gotH s).tc, .bool (Hd.gotH s).rd, .bool (Hd.gotH s).ra, .int .i64 (Hd.gotH s).z, .int .i64 (Hd.gotH s).rc] 23)).alloc (.cells #[.int .i64 (Hd.gotC s 4), .int .i64 (Hd.gotC s 6), .int .i64 (Hd.gotC s 8), .int .i64 (Hd.gotC s 10)] 80)).cell? ⟨w.heap.size, 11, none⟩ = some (.slice none 0 0) := (blk_cell pp 11).trans rfl
      have x12 : ((w1.alloc (.cells #[.int .i64 (Hd.gotH s).id, .bool (Hd.gotH s).qr, .int .i64 (Hd.gotH s).op, .bool (Hd.gotH s).aa, .bool (Hd.gotH s).tc, .bool (Hd.gotH s).rd, .bool (Hd.gotH s).ra, .int .i64 (Hd.gotH s).z, .int .i64 (Hd.gotH s).rc] 23)).alloc (.cells #[.int .i64 (Hd.gotC s 4), .int .i64 (Hd.gotC s 6), .int .i64 (Hd.gotC s 8), .int .i64 (Hd.gotC s 10)] 80)).cell? ⟨w.heap.size, 12, none⟩ = some (.slice none 0 0) := (blk_cell pp 12).trans rfl
      have y0 := blk_frozen pp 0
      have y1 := blk_frozen pp 1
      have y2 := blk_frozen pp 2
      have y3 := blk_frozen pp 3
      have y4 := blk_frozen pp 4
      have y5 := blk_frozen pp 5
      have y6 := blk_frozen pp 6
      have y7 := blk_frozen pp 7
      have y8 := blk_frozen pp 8
      have y9 := blk_frozen pp 9
      have y10 := blk_frozen pp 10
      have y11 := blk_frozen pp 11
      have y12 := blk_frozen pp 12
      have pF := putAll_blk 0 [.int .i64 0, .bool false, .int .i64 0, .bool false, .bool false, .bool false, .bool false, .int .i64 0, .int .i64 0, .slice none 0 0, .slice none 0 0, .slice none 0 0, .slice none 0 0] mz pp (by simp [setAll])
      have GF := putAll_grown (row := none) 0 [.int .i64 0, .bool false, .int .i64 0, .bool false, .bool false, .bool false, .bool false, .int .i64 0, .int .i64 0, .slice none 0 0, .slice none 0 0, .slice none 0 0, .slice none 0 0] (grown_below (BB.trans (((Below.refl w1.heap.size w1).alloc (Nat.le_refl _) (.cells #[.int .i64 (Hd.gotH s).id, .bool (Hd.gotH s).qr, .int .i64 (Hd.gotH s).op, .bool (Hd.gotH s).aa, .bool (Hd.gotH s).tc, .bool (Hd.gotH s).rd, .bool (Hd.gotH s).ra, .int .i64 (Hd.gotH s).z, .int .i64 (Hd.gotH s).rc] 23)).alloc (by simp) (.cells #[.int .i64 (Hd.gotC s 4), .int .i64 (Hd.gotC s 6), .int .i64 (Hd.gotC s 8), .int .i64 (Hd.gotC s 10)] 80) |>.mono BB.size)) none) (Nat.le_refl _)
      simp only [putAll] at pF GF
      have e0 := (blk_cell pF 0).trans rfl
      have e1 := (blk_cell pF 1).trans rfl
      have e2 := (blk_cell pF 2).trans rfl
      have e3 := (blk_cell pF 3).trans rfl
      have e4 := (blk_cell pF 4).trans rfl
      have e5 := (blk_cell pF 5).trans rfl
      have e6 := (blk_cell pF 6).trans rfl
      have e7 := (blk_cell pF 7).trans rfl
      have e8 := (blk_cell pF 8).trans rfl
      have e9 := (blk_cell pF 9).trans rfl
      have e10 := (blk_cell pF 10).trans rfl
      have e11 := (blk_cell pF 11).trans rfl
      have e12 := (blk_cell pF 12).trans rfl
      go_wp2
      exact bodyPost_ret (v := .tuple #[.agg mz, .int .i64 700]) (by simp [results, Try.results35, go_sem, e0, e1, e2, e3, e4, e5, e6, e7, e8, e9, e10, e11, e12]) rfl (post0 s w _ 700 ⟨GF.os, GF.tape, GF.output, GF.size, fun k hk => GF.block k hk (by simp)⟩)
    · have hr := HQ.out
      unfold getV at hr
      rw [if_neg h4, if_neg h12] at hr
      have HR := Lib.hid hr
      have hE : Hd.gotE s = 0 := Hd.gotE_yes (by omega)
      have hC := fun k => Hd.gotC_yes (s := s) (by omega) k
      rw [hE, Hd.gotH_yes (by omega), hC, hC, hC, hC] at kg
      clear HQ hr
      go_enter Try.func35, Try.ntmps35
      go_wp2_with fail
      refine kg.mono ?_
      rintro e w1 ⟨rfl, B1⟩
      have p1 := blk_below pz B1
      have BB := Bp.trans (B1.mono (by omega))
      clear kg pz Bp B1
      go_upto_region 7 with (fail)
      obtain ⟨⟨oq, rq⟩, hlq, hr2⟩ := Option.bind_eq_some_iff.1 HR.out
      have HR2 := Lib.hid hr2
      clear hr2 HR
      have hs4 : s.size ≤ 4096 := by omega
      have bd4 := be2_bd s 4
      have B0 : Below w1.heap.size w1 (((w1.alloc (.cells #[.int .i64 (Hd.getH s).id, .bool (Hd.getH s).qr, .int .i64 (Hd.getH s).op, .bool (Hd.getH s).aa, .bool (Hd.getH s).tc, .bool (Hd.getH s).rd, .bool (Hd.getH s).ra, .int .i64 (Hd.getH s).z, .int .i64 (Hd.getH s).rc] 23)).alloc (.cells #[.int .i64 (be2 s 4), .int .i64 (be2 s 6), .int .i64 (be2 s 8), .int .i64 (be2 s 10)] 80)).alloc (.cells #[.string s, .int .i64 12, .bool false] 120)) := (((Below.refl _ _).alloc (Nat.le_refl _) _).alloc (by simp) _).alloc (by simp; omega) _
      have bh : (((w1.alloc (.cells #[.int .i64 (Hd.getH s).id, .bool (Hd.getH s).qr, .int .i64 (Hd.getH s).op, .bool (Hd.getH s).aa, .bool (Hd.getH s).tc, .bool (Hd.getH s).rd, .bool (Hd.getH s).ra, .int .i64 (Hd.getH s).z, .int .i64 (Hd.getH s).rc] 23)).alloc (.cells #[.int .i64 (be2 s 4), .int .i64 (be2 s 6), .int .i64 (be2 s 8), .int .i64 (be2 s 10)] 80)).alloc (.cells #[.string s, .int .i64 12, .bool false] 120)).heap[w1.heap.size]? = some (.cells #[.int .i64 (Hd.getH s).id, .bool (Hd.getH s).qr, .int .i64 (Hd.getH s).op, .bool (Hd.getH s).aa, .bool (Hd.getH s).tc, .bool (Hd.getH s).rd, .bool (Hd.getH s).ra, .int .i64 (Hd.getH s).z, .int .i64 (Hd.getH s).rc] 23 (0, 0)) := Go.Proofs.YtjklgdpffmaamaaW.PrintWords.blk_alloc (Go.Proofs.YtjklgdpffmaamaaW.PrintWords.blk_alloc (blk_new w1 _) _) _
      have bc : (((w1.alloc (.cells #[.int .i64 (Hd.getH s).id, .bool (Hd.getH s).qr, .int .i64 (Hd.getH s).op, .bool (Hd.getH s).aa, .bool (Hd.getH s).tc, .bool (Hd.getH s).rd, .bool (Hd.getH s).ra, .int .i64 (Hd.getH s).z, .int .i64 (Hd.getH s).rc] 23)).alloc (.cells #[.int .i64 (be2 s 4), .int .i64 (be2 s 6), .int .i64 (be2 s 8), .int .i64 (be2 s 10)] 80)).alloc (.cells #[.string s, .int .i64 12, .bool false] 120)).heap[w1.heap.size + 1]? = some (.cells #[.int .i64 (be2 s 4), .int .i64 (be2 s 6), .int .i64 (be2 s 8), .int .i64 (be2 s 10)] 80 (0, 0)) := by
        refine Go.Proofs.YtjklgdpffmaamaaW.PrintWords.blk_alloc ?_ _
        have := blk_new (w1.alloc (.cells #[.int .i64 (Hd.getH s).id, .bool (Hd.getH s).qr, .int .i64 (Hd.getH s).op, .bool (Hd.getH s).aa, .bool (Hd.getH s).tc, .bool (Hd.getH s).rd, .bool (Hd.getH s).ra, .int .i64 (Hd.getH s).z, .int .i64 (Hd.getH s).rc] 23)) (.cells #[.int .i64 (be2 s 4), .int .i64 (be2 s 6), .int .i64 (be2 s 8), .int .i64 (be2 s 10)] 80)
        simpa using this
      have bg : (((w1.alloc (.cells #[.int .i64 (Hd.getH s).id, .bool (Hd.getH s).qr, .int .i64 (Hd.getH s).op, .bool (Hd.getH s).aa, .bool (Hd.getH s).tc, .bool (Hd.getH s).rd, .bool (Hd.getH s).ra, .int .i64 (Hd.getH s).z, .int .i64 (Hd.getH s).rc] 23)).alloc (.cells #[.int .i64 (be2 s 4), .int .i64 (be2 s 6), .int .i64 (be2 s 8), .int .i64 (be2 s 10)] 80)).alloc (.cells #[.string s, .int .i64 12, .bool false] 120)).heap[w1.heap.size + 1 + 1]? = some (.cells #[.string s, .int .i64 12, .bool false] 120 (0, 0)) := by
        have := blk_new ((w1.alloc (.cells #[.int .i64 (Hd.getH s).id, .bool (Hd.getH s).qr, .int .i64 (Hd.getH s).op, .bool (Hd.getH s).aa, .bool (Hd.getH s).tc, .bool (Hd.getH s).rd, .bool (Hd.getH s).ra, .int .i64 (Hd.getH s).z, .int .i64 (Hd.getH s).rc] 23)).alloc (.cells #[.int .i64 (be2 s 4), .int .i64 (be2 s 6), .int .i64 (be2 s 8), .int .i64 (be2 s 10)] 80)) (.cells #[.string s, .int .i64 12, .bool false] 120)
        simpa using this
      have p0 := blk_below p1 B0
      have BB0 := BB.trans (B0.mono BB.size)
      have hgw : w.heap.size ≤ w1.heap.size + 1 + 1 := by have := BB.size; omega
      have hcg : w1.heap.size + 1 ≠ w1.heap.size + 1 + 1 := by omega
      have hhg : w1.heap.size ≠ w1.heap.size + 1 + 1 := by omega
      have hpg : w.heap.size ≠ w1.heap.size + 1 + 1 := by have := BB.size; omega
      clear p1 BB B0 sp
      generalize (((w1.alloc (.cells #[.int .i64 (Hd.getH s).id, .bool (Hd.getH s).qr, .int .i64 (Hd.getH s).op, .bool (Hd.getH s).aa, .bool (Hd.getH s).tc, .bool (Hd.getH s).rd, .bool (Hd.getH s).ra, .int .i64 (Hd.getH s).z, .int .i64 (Hd.getH s).rc] 23)).alloc (.cells #[.int .i64 (be2 s 4), .int .i64 (be2 s 6), .int .i64 (be2 s 8), .int .i64 (be2 s 10)] 80)).alloc (.cells #[.string s, .int .i64 12, .bool false] 120)) = W0 at *
      generalize w1.heap.size + 1 + 1 = g at *
      generalize w1.heap.size + 1 = kc at *
      generalize w1.heap.size = kh at *
      have RG : RdAt W0 g s ⟨12, false⟩ := ⟨bg⟩
      have h0 : W0.cell? ⟨kh, 0, none⟩ = some (.int .i64 (Hd.getH s).id) := (blk_cell bh 0).trans rfl
      have h1 : W0.cell? ⟨kh, 1, none⟩ = some (.bool (Hd.getH s).qr) := (blk_cell bh 1).trans rfl
      have h2 : W0.cell? ⟨kh, 2, none⟩ = some (.int .i64 (Hd.getH s).op) := (blk_cell bh 2).trans rfl
      have h3 : W0.cell? ⟨kh, 3, none⟩ = some (.bool (Hd.getH s).aa) := (blk_cell bh 3).trans rfl
      have h4 : W0.cell? ⟨kh, 4, none⟩ = some (.bool (Hd.getH s).tc) := (blk_cell bh 4).trans rfl
      have h5 : W0.cell? ⟨kh, 5, none⟩ = some (.bool (Hd.getH s).rd) := (blk_cell bh 5).trans rfl
      have h6 : W0.cell? ⟨kh, 6, none⟩ = some (.bool (Hd.getH s).ra) := (blk_cell bh 6).trans rfl
      have h7 : W0.cell? ⟨kh, 7, none⟩ = some (.int .i64 (Hd.getH s).z) := (blk_cell bh 7).trans rfl
      have h8 : W0.cell? ⟨kh, 8, none⟩ = some (.int .i64 (Hd.getH s).rc) := (blk_cell bh 8).trans rfl
      have h9 : W0.cell? ⟨kc, 0, none⟩ = some (.int .i64 (be2 s 4)) := (blk_cell bc 0).trans rfl
      have Dh := blk_below bh ((Below.refl W0.heap.size W0).alloc (Nat.le_refl _) (.cells mz 27))
      have Dc := blk_below bc ((Below.refl W0.heap.size W0).alloc (Nat.le_refl _) (.cells mz 27))
      have ha0 : (W0.alloc (.cells mz 27)).cell? ⟨kh, 0, none⟩ = some (.int .i64 (Hd.getH s).id) := (blk_cell Dh 0).trans rfl
      have ha1 : (W0.alloc (.cells mz 27)).cell? ⟨kh, 1, none⟩ = some (.bool (Hd.getH s).qr) := (blk_cell Dh 1).trans rfl
      have ha2 : (W0.alloc (.cells mz 27)).cell? ⟨kh, 2, none⟩ = some (.int .i64 (Hd.getH s).op) := (blk_cell Dh 2).trans rfl
      have ha3 : (W0.alloc (.cells mz 27)).cell? ⟨kh, 3, none⟩ = some (.bool (Hd.getH s).aa) := (blk_cell Dh 3).trans rfl
      have ha4 : (W0.alloc (.cells mz 27)).cell? ⟨kh, 4, none⟩ = some (.bool (Hd.getH s).tc) := (blk_cell Dh 4).trans rfl
      have ha5 : (W0.alloc (.cells mz 27)).cell? ⟨kh, 5, none⟩ = some (.bool (Hd.getH s).rd) := (blk_cell Dh 5).trans rfl
      have ha6 : (W0.alloc (.cells mz 27)).cell? ⟨kh, 6, none⟩ = some (.bool (Hd.getH s).ra) := (blk_cell Dh 6).trans rfl
      have ha7 : (W0.alloc (.cells mz 27)).cell? ⟨kh, 7, none⟩ = some (.int .i64 (Hd.getH s).z) := (blk_cell Dh 7).trans rfl
      have ha8 : (W0.alloc (.cells mz 27)).cell? ⟨kh, 8, none⟩ = some (.int .i64 (Hd.getH s).rc) := (blk_cell Dh 8).trans rfl
      have ha9 : (W0.alloc (.cells mz 27)).cell? ⟨kc, 0, none⟩ = some (.int .i64 (be2 s 4)) := (blk_cell Dc 0).trans rfl
      have nw0 := World.new_ne W0 ⟨kh, 0, none⟩ h0
      have nw1 := World.new_ne W0 ⟨kh, 1, none⟩ h1
      have nw2 := World.new_ne W0 ⟨kh, 2, none⟩ h2
      have nw3 := World.new_ne W0 ⟨kh, 3, none⟩ h3
      have nw4 := World.new_ne W0 ⟨kh, 4, none⟩ h4
      have nw5 := World.new_ne W0 ⟨kh, 5, none⟩ h5
      have nw6 := World.new_ne W0 ⟨kh, 6, none⟩ h6
      have nw7 := World.new_ne W0 ⟨kh, 7, none⟩ h7
      have nw8 := World.new_ne W0 ⟨kh, 8, none⟩ h8
      have nw9 := World.new_ne W0 ⟨kc, 0, none⟩ h9
      have Dd : Below W0.heap.size W0 W0.drew := (Below.refl _ _).drew
      have De : Below W0.heap.size W0 (W0.alloc (.cells mz 27)).drew := ((Below.refl _ _).alloc (Nat.le_refl _) _).drew
      have hn4 : (((be2 s 4).toNat : Nat) : Int) = be2 s 4 := by omega
      have kqd := listQc (RG.below Dd) hs4 (be2 s 4).toNat (by omega) hlq
      have kqe := listQc (RG.below De) hs4 (be2 s 4).toNat (by omega) hlq
      rw [hn4] at kqd kqe
      have bhd := blk_below bh Dd
      have bcd := blk_below bc Dd
      have bhe := blk_below bh De
      have bce := blk_below bc De
      have p0d := blk_below p0 Dd
      have p0e := blk_below p0 De
      have kke : (W0.alloc (.cells mz 27)).drew.heap[W0.heap.size]? = some (.cells mz 27 (0, 0)) := blk_new W0 _
      have hgW : g ≠ W0.heap.size := Nat.ne_of_lt (blk_lt bg)
      have FQ : ∀ (W w3 : World), W.heap[kh]? = some (.cells #[.int .i64 (Hd.getH s).id, .bool (Hd.getH s).qr, .int .i64 (Hd.getH s).op, .bool (Hd.getH s).aa, .bool (Hd.getH s).tc, .bool (Hd.getH s).rd, .bool (Hd.getH s).ra, .int .i64 (Hd.getH s).z, .int .i64 (Hd.getH s).rc] 23 (0, 0)) → W.heap[kc]? = some (.cells #[.int .i64 (be2 s 4), .int .i64 (be2 s 6), .int .i64 (be2 s 8), .int .i64 (be2 s 10)] 80 (0, 0)) → W.grownBy w3 (some g) → w3.cell? ⟨kh, 0, none⟩ = some (.int .i64 (Hd.getH s).id) ∧ w3.cell? ⟨kh, 1, none⟩ = some (.bool (Hd.getH s).qr) ∧ w3.cell? ⟨kh, 2, none⟩ = some (.int .i64 (Hd.getH s).op) ∧ w3.cell? ⟨kh, 3, none⟩ = some (.bool (Hd.getH s).aa) ∧ w3.cell? ⟨kh, 4, none⟩ = some (.bool (Hd.getH s).tc) ∧ w3.cell? ⟨kh, 5, none⟩ = some (.bool (Hd.getH s).rd) ∧ w3.cell? ⟨kh, 6, none⟩ = some (.bool (Hd.getH s).ra) ∧ w3.cell? ⟨kh, 7, none⟩ = some (.int .i64 (Hd.getH s).z) ∧ w3.cell? ⟨kh, 8, none⟩ = some (.int .i64 (Hd.getH s).rc) ∧ w3.cell? ⟨kc, 0, none⟩ = some (.int .i64 (be2 s 4)) := fun W w3 a b G => by
        have a' := blk_grown a G (by intro q; injection q with q; exact hhg q)
        have b' := blk_grown b G (by intro q; injection q with q; exact hcg q)
        exact ⟨(blk_cell a' 0).trans rfl, (blk_cell a' 1).trans rfl, (blk_cell a' 2).trans rfl, (blk_cell a' 3).trans rfl, (blk_cell a' 4).trans rfl, (blk_cell a' 5).trans rfl, (blk_cell a' 6).trans rfl, (blk_cell a' 7).trans rfl, (blk_cell a' 8).trans rfl, (blk_cell b' 0).trans rfl⟩
      have FK : ∀ (W w3 : World), W.heap[W0.heap.size]? = some (.cells mz 27 (0, 0)) → W.grownBy w3 (some g) → w3.heap[W0.heap.size]? = some (.cells mz 27 (0, 0)) ∧ w3.cell? ⟨W0.heap.size, 0, none⟩ = some (.int .i64 0) ∧ w3.cell? ⟨W0.heap.size, 1, none⟩ = some (.bool false) ∧ w3.cell? ⟨W0.heap.size, 2, none⟩ = some (.int .i64 0) ∧ w3.cell? ⟨W0.heap.size, 3, none⟩ = some (.bool false) ∧ w3.cell? ⟨W0.heap.size, 4, none⟩ = some (.bool false) ∧ w3.cell? ⟨W0.heap.size, 5, none⟩ = some (.bool false) ∧ w3.cell? ⟨W0.heap.size, 6, none⟩ = some (.bool false) ∧ w3.cell? ⟨W0.heap.size, 7, none⟩ = some (.int .i64 0) ∧ w3.cell? ⟨W0.heap.size, 8, none⟩ = some (.int .i64 0) ∧ w3.cell? ⟨W0.heap.size, 9, none⟩ = some (.slice none 0 0) ∧ w3.cell? ⟨W0.heap.size, 10, none⟩ = some (.slice none 0 0) ∧ w3.cell? ⟨W0.heap.size, 11, none⟩ = some (.slice none 0 0) ∧ w3.cell? ⟨W0.heap.size, 12, none⟩ = some (.slice none 0 0) ∧ w3.frozen? ⟨W0.heap.size, 0, none⟩ = false ∧ w3.frozen? ⟨W0.heap.size, 1, none⟩ = false ∧ w3.frozen? ⟨W0.heap.size, 2, none⟩ = false ∧ w3.frozen? ⟨W0.heap.size, 3, none⟩ = false ∧ w3.frozen? ⟨W0.heap.size, 4, none⟩ = false ∧ w3.frozen? ⟨W0.heap.size, 5, none⟩ = false ∧ w3.frozen? ⟨W0.heap.size, 6, none⟩ = false ∧ w3.frozen? ⟨W0.heap.size, 7, none⟩ = false ∧ w3.frozen? ⟨W0.heap.size, 8, none⟩ = false ∧ w3.frozen? ⟨W0.heap.size, 9, none⟩ = false ∧ w3.frozen? ⟨W0.heap.size, 10, none⟩ = false ∧ w3.frozen? ⟨W0.heap.size, 11, none⟩ = false ∧ w3.frozen? ⟨W0.heap.size, 12, none⟩ = false := fun W w3 a G => by
        have a' := blk_grown a G (by intro q; injection q with q; exact hgW q.symm)
        exact ⟨a', (blk_cell a' 0).trans rfl, (blk_cell a' 1).trans rfl, (blk_cell a' 2).trans rfl, (blk_cell a' 3).trans rfl, (blk_cell a' 4).trans rfl, (blk_cell a' 5).trans rfl, (blk_cell a' 6).trans rfl, (blk_cell a' 7).trans rfl, (blk_cell a' 8).trans rfl, (blk_cell a' 9).trans rfl, (blk_cell a' 10).trans rfl, (blk_cell a' 11).trans rfl, (blk_cell a' 12).trans rfl, blk_frozen a' 0, blk_frozen a' 1, blk_frozen a' 2, blk_frozen a' 3, blk_frozen a' 4, blk_frozen a' 5, blk_frozen a' 6, blk_frozen a' 7, blk_frozen a' 8, blk_frozen a' 9, blk_frozen a' 10, blk_frozen a' 11, blk_frozen a' 12⟩
      have F1 : ∀ (w3 : World) (vq : Value) (b : Nat), W0.heap.size ≤ b → w3.ownsRow b 40 3 vq oq.length (cellsQ oq) → RdAt w3 g s rq → w3.heap[w.heap.size]? = some (.cells mz 27 (0, 0)) → w3.heap[kc]? = some (.cells #[.int .i64 (be2 s 4), .int .i64 (be2 s 6), .int .i64 (be2 s 8), .int .i64 (be2 s 10)] 80 (0, 0)) → W0.grownBy w3 (some g) → ∃ W, W = w3.alloc (.cells #[.int .i64 (Hd.getH s).id, .bool (Hd.getH s).qr, .int .i64 (Hd.getH s).op, .bool (Hd.getH s).aa, .bool (Hd.getH s).tc, .bool (Hd.getH s).rd, .bool (Hd.getH s).ra, .int .i64 (Hd.getH s).z, .int .i64 (Hd.getH s).rc, vq, .slice none 0 0, .slice none 0 0, .slice none 0 0] 27) ∧ W.heap[w3.heap.size]? = some (.cells #[.int .i64 (Hd.getH s).id, .bool (Hd.getH s).qr, .int .i64 (Hd.getH s).op, .bool (Hd.getH s).aa, .bool (Hd.getH s).tc, .bool (Hd.getH s).rd, .bool (Hd.getH s).ra, .int .i64 (Hd.getH s).z, .int .i64 (Hd.getH s).rc, vq, .slice none 0 0, .slice none 0 0, .slice none 0 0] 27 (0, 0)) ∧ W0.heap.size ≤ w3.heap.size ∧ W.ownsRow W0.heap.size 40 3 vq oq.length (cellsQ oq) ∧ RdAt W g s rq ∧ W.heap[w.heap.size]? = some (.cells mz 27 (0, 0)) ∧ W.heap[kc]? = some (.cells #[.int .i64 (be2 s 4), .int .i64 (be2 s 6), .int .i64 (be2 s 8), .int .i64 (be2 s 10)] 80 (0, 0)) ∧ W0.grownBy W (some g) := by
        intro w3 vq b hle ho H p c G
        have Bz : Below w3.heap.size w3 (w3.alloc (.cells #[.int .i64 (Hd.getH s).id, .bool (Hd.getH s).qr, .int .i64 (Hd.getH s).op, .bool (Hd.getH s).aa, .bool (Hd.getH s).tc, .bool (Hd.getH s).rd, .bool (Hd.getH s).ra, .int .i64 (Hd.getH s).z, .int .i64 (Hd.getH s).rc, vq, .slice none 0 0, .slice none 0 0, .slice none 0 0] 27)) := (Below.refl _ _).alloc (Nat.le_refl _) _
        exact ⟨_, rfl, blk_new w3 _, G.size, Sl.own_below (own_lower ho hle) Bz, H.below Bz, blk_below p Bz, blk_below c Bz, grown_alloc' G _⟩
      have F2 : ∀ (w3 : World) (vq : Value) (b : Nat), W0.heap.size ≤ b → w3.ownsRow b 40 3 vq oq.length (cellsQ oq) → RdAt w3 g s rq → w3.heap[W0.heap.size]? = some (.cells mz 27 (0, 0)) → w3.heap[w.heap.size]? = some (.cells mz 27 (0, 0)) → w3.heap[kc]? = some (.cells #[.int .i64 (be2 s 4), .int .i64 (be2 s 6), .int .i64 (be2 s 8), .int .i64 (be2 s 10)] 80 (0, 0)) → W0.grownBy w3 (some g) → (putAll w3 W0.heap.size 0 [.int .i64 (Hd.getH s).id, .bool (Hd.getH s).qr, .int .i64 (Hd.getH s).op, .bool (Hd.getH s).aa, .bool (Hd.getH s).tc, .bool (Hd.getH s).rd, .bool (Hd.getH s).ra, .int .i64 (Hd.getH s).z, .int .i64 (Hd.getH s).rc, vq, .slice none 0 0, .slice none 0 0, .slice none 0 0]).heap[W0.heap.size]? = some (.cells #[.int .i64 (Hd.getH s).id, .bool (Hd.getH s).qr, .int .i64 (Hd.getH s).op, .bool (Hd.getH s).aa, .bool (Hd.getH s).tc, .bool (Hd.getH s).rd, .bool (Hd.getH s).ra, .int .i64 (Hd.getH s).z, .int .i64 (Hd.getH s).rc, vq, .slice none 0 0, .slice none 0 0, .slice none 0 0] 27 (0, 0)) ∧ (putAll w3 W0.heap.size 0 [.int .i64 (Hd.getH s).id, .bool (Hd.getH s).qr, .int .i64 (Hd.getH s).op, .bool (Hd.getH s).aa, .bool (Hd.getH s).tc, .bool (Hd.getH s).rd, .bool (Hd.getH s).ra, .int .i64 (Hd.getH s).z, .int .i64 (Hd.getH s).rc, vq, .slice none 0 0, .slice none 0 0, .slice none 0 0]).ownsRow W0.heap.size 40 3 vq oq.length (cellsQ oq) ∧ RdAt (putAll w3 W0.heap.size 0 [.int .i64 (Hd.getH s).id, .bool (Hd.getH s).qr, .int .i64 (Hd.getH s).op, .bool (Hd.getH s).aa, .bool (Hd.getH s).tc, .bool (Hd.getH s).rd, .bool (Hd.getH s).ra, .int .i64 (Hd.getH s).z, .int .i64 (Hd.getH s).rc, vq, .slice none 0 0, .slice none 0 0, .slice none 0 0]) g s rq ∧ (putAll w3 W0.heap.size 0 [.int .i64 (Hd.getH s).id, .bool (Hd.getH s).qr, .int .i64 (Hd.getH s).op, .bool (Hd.getH s).aa, .bool (Hd.getH s).tc, .bool (Hd.getH s).rd, .bool (Hd.getH s).ra, .int .i64 (Hd.getH s).z, .int .i64 (Hd.getH s).rc, vq, .slice none 0 0, .slice none 0 0, .slice none 0 0]).heap[w.heap.size]? = some (.cells mz 27 (0, 0)) ∧ (putAll w3 W0.heap.size 0 [.int .i64 (Hd.getH s).id, .bool (Hd.getH s).qr, .int .i64 (Hd.getH s).op, .bool (Hd.getH s).aa, .bool (Hd.getH s).tc, .bool (Hd.getH s).rd, .bool (Hd.getH s).ra, .int .i64 (Hd.getH s).z, .int .i64 (Hd.getH s).rc, vq, .slice none 0 0, .slice none 0 0, .slice none 0 0]).heap[kc]? = some (.cells #[.int .i64 (be2 s 4), .int .i64 (be2 s 6), .int .i64 (be2 s 8), .int .i64 (be2 s 10)] 80 (0, 0)) ∧ W0.grownBy (putAll w3 W0.heap.size 0 [.int .i64 (Hd.getH s).id, .bool (Hd.getH s).qr, .int .i64 (Hd.getH s).op, .bool (Hd.getH s).aa, .bool (Hd.getH s).tc, .bool (Hd.getH s).rd, .bool (Hd.getH s).ra, .int .i64 (Hd.getH s).z, .int .i64 (Hd.getH s).rc, vq, .slice none 0 0, .slice none 0 0, .slice none 0 0]) (some g) := by
        intro w3 vq b hle ho H k p c G
        have hne := own_ne ho k (by decide)
        have hpW : w.heap.size ≠ W0.heap.size := Nat.ne_of_lt (blk_lt p0)
        have hcW : kc ≠ W0.heap.size := Nat.ne_of_lt (blk_lt bc)
        exact ⟨putAll_blk 0 _ _ k (by simp [setAll]), putAll_own 0 _ (own_lower ho hle) hne, ⟨(putAll_ne 0 _ hgW).trans H.blk⟩, (putAll_ne 0 _ hpW).trans p, (putAll_ne 0 _ hcW).trans c, putAll_grown 0 _ G (Nat.le_refl _)⟩
      have P3 : ∀ (W w3 : World), W.heap[w.heap.size]? = some (.cells mz 27 (0, 0)) → W.grownBy w3 (some g) → w3.heap[w.heap.size]? = some (.cells mz 27 (0, 0)) := fun W w3 h G => blk_grown h G (by intro q; injection q with q; exact hpg q)
      have C3 : ∀ (W w3 : World), W.heap[kc]? = some (.cells #[.int .i64 (be2 s 4), .int .i64 (be2 s 6), .int .i64 (be2 s 8), .int .i64 (be2 s 10)] 80 (0, 0)) → W.grownBy w3 (some g) → w3.heap[kc]? = some (.cells #[.int .i64 (be2 s 4), .int .i64 (be2 s 6), .int .i64 (be2 s 8), .int .i64 (be2 s 10)] 80 (0, 0)) := fun W w3 h G => blk_grown h G (by intro q; injection q with q; exact hcg q)
      have GWd := grown_below Dd (some g)
      have GWe := grown_below De (some g)
      have HF1 := Lib.hid F1
      have HF2 := Lib.hid F2
      have HP3 := Lib.hid P3
      have HC3 := Lib.hid C3
      clear F1 F2 P3 C3
      go_cut [8] (fun v8 wc => ∃ km vq, v8 = .pointer (some ⟨km, 0, none⟩) ∧ wc.heap[km]? = some (.cells #[.int .i64 (Hd.getH s).id, .bool (Hd.getH s).qr, .int .i64 (Hd.getH s).op, .bool (Hd.getH s).aa, .bool (Hd.getH s).tc, .bool (Hd.getH s).rd, .bool (Hd.getH s).ra, .int .i64 (Hd.getH s).z, .int .i64 (Hd.getH s).rc, vq, .slice none 0 0, .slice none 0 0, .slice none 0 0] 27 (0, 0)) ∧ W0.heap.size ≤ km ∧ wc.ownsRow W0.heap.size 40 3 vq oq.length (cellsQ oq) ∧ RdAt wc g s rq ∧ wc.heap[w.heap.size]? = some (.cells mz 27 (0, 0)) ∧ wc.heap[kc]? = some (.cells #[.int .i64 (be2 s 4), .int .i64 (be2 s 6), .int .i64 (be2 s 8), .int .i64 (be2 s 10)] 80 (0, 0)) ∧ W0.grownBy wc (some g))
      case first =>
        go_region_held3 (fun w' => w'.cell? ⟨kh, 0, none⟩ = some (.int .i64 (Hd.getH s).id) ∧ w'.cell? ⟨kh, 1, none⟩ = some (.bool (Hd.getH s).qr) ∧ w'.cell? ⟨kh, 2, none⟩ = some (.int .i64 (Hd.getH s).op) ∧ w'.cell? ⟨kh, 3, none⟩ = some (.bool (Hd.getH s).aa) ∧ w'.cell? ⟨kh, 4, none⟩ = some (.bool (Hd.getH s).tc) ∧ w'.cell? ⟨kh, 5, none⟩ = some (.bool (Hd.getH s).rd) ∧ w'.cell? ⟨kh, 6, none⟩ = some (.bool (Hd.getH s).ra) ∧ w'.cell? ⟨kh, 7, none⟩ = some (.int .i64 (Hd.getH s).z) ∧ w'.cell? ⟨kh, 8, none⟩ = some (.int .i64 (Hd.getH s).rc) ∧ w'.cell? ⟨kc, 0, none⟩ = some (.int .i64 (be2 s 4)))
          (first | with_reducible exact ⟨h0, h1, h2, h3, h4, h5, h6, h7, h8, h9⟩ | with_reducible exact ⟨ha0, ha1, ha2, ha3, ha4, ha5, ha6, ha7, ha8, ha9⟩ | with_reducible exact ⟨i0, i1, i2, i3, i4, i5, i6, i7, i8, i9⟩ | (go_keep; done))
          (first
            | (go_at_call 65; with_reducible refine kqd.mono ?_; rintro e w3 ⟨vq, rfl, hown, H3, G3⟩; obtain ⟨A3, c3, rfl⟩ := Sl.own_slice hown; obtain ⟨i0, i1, i2, i3, i4, i5, i6, i7, i8, i9⟩ := FQ _ _ bhd bcd G3; have nv0 := World.new_ne w3 ⟨kh, 0, none⟩ i0; have nv1 := World.new_ne w3 ⟨kh, 1, none⟩ i1; have nv2 := World.new_ne w3 ⟨kh, 2, none⟩ i2; have nv3 := World.new_ne w3 ⟨kh, 3, none⟩ i3; have nv4 := World.new_ne w3 ⟨kh, 4, none⟩ i4; have nv5 := World.new_ne w3 ⟨kh, 5, none⟩ i5; have nv6 := World.new_ne w3 ⟨kh, 6, none⟩ i6; have nv7 := World.new_ne w3 ⟨kh, 7, none⟩ i7; have nv8 := World.new_ne w3 ⟨kh, 8, none⟩ i8; have nv9 := World.new_ne w3 ⟨kc, 0, none⟩ i9)
            | (go_at_call 65; with_reducible refine kqe.mono ?_; rintro e w3 ⟨vq, rfl, hown, H3, G3⟩; obtain ⟨A3, c3, rfl⟩ := Sl.own_slice hown; obtain ⟨i0, i1, i2, i3, i4, i5, i6, i7, i8, i9⟩ := FQ _ _ bhe bce G3; have nv0 := World.new_ne w3 ⟨kh, 0, none⟩ i0; have nv1 := World.new_ne w3 ⟨kh, 1, none⟩ i1; have nv2 := World.new_ne w3 ⟨kh, 2, none⟩ i2; have nv3 := World.new_ne w3 ⟨kh, 3, none⟩ i3; have nv4 := World.new_ne w3 ⟨kh, 4, none⟩ i4; have nv5 := World.new_ne w3 ⟨kh, 5, none⟩ i5; have nv6 := World.new_ne w3 ⟨kh, 6, none⟩ i6; have nv7 := World.new_ne w3 ⟨kh, 7, none⟩ i7; have nv8 := World.new_ne w3 ⟨kh, 8, none⟩ i8; have nv9 := World.new_ne w3 ⟨kc, 0, none⟩ i9; obtain ⟨k3, m0, m1, m2, m3, m4, m5, m6, m7, m8, m9, m10, m11, m12, n0, n1, n2, n3, n4, n5, n6, n7, n8, n9, n10, n11, n12⟩ := FK _ _ kke G3))
        all_goals
          go_wp2_with fail
          go_meet
          case rel =>
            first
            | (have hk3 := k3
               have hp3 := HP3.out (W0.alloc (.cells mz 27)).drew w3 p0e G3
               have hc3 := HC3.out (W0.alloc (.cells mz 27)).drew w3 bce G3
               have hg3 := GWe.trans G3
               have key := HF2.out w3 _ _ (by simp) hown H3 hk3 hp3 hc3 hg3
               simp only [putAll] at key
               obtain ⟨a, b, c, d, e, f⟩ := key
               exact ⟨W0.heap.size, _, rfl, a, Nat.le_refl _, b, c, d, e, f⟩)
            | (have hp3 := HP3.out W0.drew w3 p0d G3
               have hc3 := HC3.out W0.drew w3 bcd G3
               have hg3 := GWd.trans G3
               obtain ⟨W, hW, a, b', b, c, d, e, f⟩ := HF1.out w3 _ _ (Nat.le_refl _) hown H3 hp3 hc3 hg3
               rw [← hW]
               exact ⟨w3.heap.size, _, rfl, a, b', b, c, d, e, f⟩)
      case rest =>
      obtain ⟨km, vq, rfl, bm, hkm, ho, H3, p3, c3, G3⟩ := hcut
      clear HF1 HF2 HP3 HC3 FQ FK kqd kqe h0 h1 h2 h3 h4 h5 h6 h7 h8 h9 ha0 ha1 ha2 ha3 ha4 ha5 ha6 ha7 ha8 ha9 nw0 nw1 nw2 nw3 nw4 nw5 nw6 nw7 nw8 nw9 RG Dh Dc Dd De bhd bcd bhe bce p0d p0e kke GWd GWe
      have hmg : g ≠ km := by have := blk_lt bg; omega
      have hcm : kc ≠ km := by have := blk_lt bc; omega
      have hpm : w.heap.size ≠ km := by have := blk_lt p0; omega
      have ip0 : ∀ W, (Instr.index 125 (.agg #[.pointer (some ⟨km, 10, none⟩), .pointer (some ⟨km, 11, none⟩), .pointer (some ⟨km, 12, none⟩)]) (.int .i64 0)).run Try.prog W = .ok (.pointer (some ⟨km, 10, none⟩)) W := fun _ => by kernel_rfl
      have ip1 : ∀ W, (Instr.index 125 (.agg #[.pointer (some ⟨km, 10, none⟩), .pointer (some ⟨km, 11, none⟩), .pointer (some ⟨km, 12, none⟩)]) (.int .i64 1)).run Try.prog W = .ok (.pointer (some ⟨km, 11, none⟩)) W := fun _ => by kernel_rfl
      have ip2 : ∀ W, (Instr.index 125 (.agg #[.pointer (some ⟨km, 10, none⟩), .pointer (some ⟨km, 11, none⟩), .pointer (some ⟨km, 12, none⟩)]) (.int .i64 2)).run Try.prog W = .ok (.pointer (some ⟨km, 12, none⟩)) W := fun _ => by kernel_rfl
      obtain ⟨⟨oa, ra⟩, hla, hr3⟩ := Option.bind_eq_some_iff.1 HR2.out
      obtain ⟨⟨on, rn⟩, hln, hr4⟩ := Option.bind_eq_some_iff.1 hr3
      obtain ⟨⟨orr, rr⟩, hlr, hr5⟩ := Option.bind_eq_some_iff.1 hr4
      have HR5 := Lib.hid hr5
      clear hr3 hr4 hr5 HR2
      obtain ⟨Aq, cq, rfl⟩ := Sl.own_slice ho
      go_upto_region 9 with (fail)
      refine wp_loop_rounds 4 ?_
      have bd0 := be2_bd s 6
      have hk0 : (((be2 s 6).toNat : Nat) : Int) = be2 s 6 := by omega
      have kr0 := listRc H3 hs4 (be2 s 6).toNat (by omega) hla
      rw [hk0] at kr0
      have cx0 : wc.cell? ⟨kc, 1, none⟩ = some (.int .i64 (be2 s 6)) := (blk_cell c3 1).trans rfl
      rw [rounds_succ]
      go_wp2_with fail
      refine kr0.mono ?_
      rintro e5 wl0 ⟨vl0, rfl, hol0, HL0, GL0⟩
      obtain ⟨A0, c0x, rfl⟩ := Sl.own_slice hol0
      have bl0 := blk_grown bm GL0 (by intro q; injection q with q; exact hmg q.symm)
      have cl0 := blk_grown c3 GL0 (by intro q; injection q with q; exact hcg q)
      have pl0 := blk_grown p3 GL0 (by intro q; injection q with q; exact hpg q)
      replace ho := own_other ho GL0 (.inr (Ne.symm (own_ne ho H3.blk (by decide))))
      have lt0 := Lib.hid (own_lt hol0)
      have xm0 : wl0.cell? ⟨km, 10, none⟩ = some (.slice none 0 0) := (blk_cell bl0 10).trans rfl
      have fm0 := blk_frozen bl0 10
      have bn0 := blk_put bl0 10 (.slice A0 oa.length c0x) rfl
      have cn0 := blk_set_ne (p := ⟨km, 10, none⟩) cl0 hcm (.slice A0 oa.length c0x)
      have pn0 := blk_set_ne (p := ⟨km, 10, none⟩) pl0 hpm (.slice A0 oa.length c0x)
      have HN0 : RdAt (wl0.setCell ⟨km, 10, none⟩ (.slice A0 oa.length c0x)) g s ra := ⟨blk_set_ne (p := ⟨km, 10, none⟩) HL0.blk hmg (.slice A0 oa.length c0x)⟩
      have GN0 := grown_far (p := ⟨km, 10, none⟩) (G3.trans GL0) hkm (.slice A0 oa.length c0x)
      replace ho := own_setCell (p := ⟨km, 10, none⟩) ho (own_ne ho bl0 (by decide)) (.slice A0 oa.length c0x)
      replace hol0 := own_setCell (p := ⟨km, 10, none⟩) hol0 (own_ne hol0 bl0 (by decide)) (.slice A0 oa.length c0x)
      go_wp2_with fail
      skip
      have bd1 := be2_bd s 8
      have hk1 : (((be2 s 8).toNat : Nat) : Int) = be2 s 8 := by omega
      have kr1 := listRc HN0 hs4 (be2 s 8).toNat (by omega) hln
      rw [hk1] at kr1
      have cx1 : (wl0.setCell ⟨km, 10, none⟩ (.slice A0 oa.length c0x)).cell? ⟨kc, 2, none⟩ = some (.int .i64 (be2 s 8)) := (blk_cell cn0 2).trans rfl
      rw [rounds_succ]
      go_wp2_with fail
      refine kr1.mono ?_
      rintro e5 wl1 ⟨vl1, rfl, hol1, HL1, GL1⟩
      obtain ⟨A1, c1x, rfl⟩ := Sl.own_slice hol1
      have bl1 := blk_grown bn0 GL1 (by intro q; injection q with q; exact hmg q.symm)
      have cl1 := blk_grown cn0 GL1 (by intro q; injection q with q; exact hcg q)
      have pl1 := blk_grown pn0 GL1 (by intro q; injection q with q; exact hpg q)
      replace ho := own_other ho GL1 (.inr (Ne.symm (own_ne ho HN0.blk (by decide))))
      replace hol0 := own_other hol0 GL1 (.inr (Ne.symm (own_ne hol0 HN0.blk (by decide))))
      have lt1 := Lib.hid (own_lt hol1)
      have bs1 := Lib.hid (Sl.own_base hol1)
      have xm1 : wl1.cell? ⟨km, 11, none⟩ = some (.slice none 0 0) := (blk_cell bl1 11).trans rfl
      have fm1 := blk_frozen bl1 11
      have bn1 := blk_put bl1 11 (.slice A1 on.length c1x) rfl
      have cn1 := blk_set_ne (p := ⟨km, 11, none⟩) cl1 hcm (.slice A1 on.length c1x)
      have pn1 := blk_set_ne (p := ⟨km, 11, none⟩) pl1 hpm (.slice A1 on.length c1x)
      have HN1 : RdAt (wl1.setCell ⟨km, 11, none⟩ (.slice A1 on.length c1x)) g s rn := ⟨blk_set_ne (p := ⟨km, 11, none⟩) HL1.blk hmg (.slice A1 on.length c1x)⟩
      have GN1 := grown_far (p := ⟨km, 11, none⟩) (GN0.trans GL1) hkm (.slice A1 on.length c1x)
      replace ho := own_setCell (p := ⟨km, 11, none⟩) ho (own_ne ho bl1 (by decide)) (.slice A1 on.length c1x)
      replace hol0 := own_setCell (p := ⟨km, 11, none⟩) hol0 (own_ne hol0 bl1 (by decide)) (.slice A1 on.length c1x)
      replace hol1 := own_setCell (p := ⟨km, 11, none⟩) hol1 (own_ne hol1 bl1 (by decide)) (.slice A1 on.length c1x)
      go_wp2_with fail
      skip
      have bd2 := be2_bd s 10
      have hk2 : (((be2 s 10).toNat : Nat) : Int) = be2 s 10 := by omega
      have kr2 := listRc HN1 hs4 (be2 s 10).toNat (by omega) hlr
      rw [hk2] at kr2
      have cx2 : (wl1.setCell ⟨km, 11, none⟩ (.slice A1 on.length c1x)).cell? ⟨kc, 3, none⟩ = some (.int .i64 (be2 s 10)) := (blk_cell cn1 3).trans rfl
      rw [rounds_succ]
      go_wp2_with fail
      refine kr2.mono ?_
      rintro e5 wl2 ⟨vl2, rfl, hol2, HL2, GL2⟩
      obtain ⟨A2, c2x, rfl⟩ := Sl.own_slice hol2
      have bl2 := blk_grown bn1 GL2 (by intro q; injection q with q; exact hmg q.symm)
      have cl2 := blk_grown cn1 GL2 (by intro q; injection q with q; exact hcg q)
      have pl2 := blk_grown pn1 GL2 (by intro q; injection q with q; exact hpg q)
      replace ho := own_other ho GL2 (.inr (Ne.symm (own_ne ho HN1.blk (by decide))))
      replace hol0 := own_other hol0 GL2 (.inr (Ne.symm (own_ne hol0 HN1.blk (by decide))))
      replace hol1 := own_other hol1 GL2 (.inr (Ne.symm (own_ne hol1 HN1.blk (by decide))))
      have bs2 := Lib.hid (Sl.own_base hol2)
      have xm2 : wl2.cell? ⟨km, 12, none⟩ = some (.slice none 0 0) := (blk_cell bl2 12).trans rfl
      have fm2 := blk_frozen bl2 12
      have bn2 := blk_put bl2 12 (.slice A2 orr.length c2x) rfl
      have cn2 := blk_set_ne (p := ⟨km, 12, none⟩) cl2 hcm (.slice A2 orr.length c2x)
      have pn2 := blk_set_ne (p := ⟨km, 12, none⟩) pl2 hpm (.slice A2 orr.length c2x)
      have HN2 : RdAt (wl2.setCell ⟨km, 12, none⟩ (.slice A2 orr.length c2x)) g s rr := ⟨blk_set_ne (p := ⟨km, 12, none⟩) HL2.blk hmg (.slice A2 orr.length c2x)⟩
      have GN2 := grown_far (p := ⟨km, 12, none⟩) (GN1.trans GL2) hkm (.slice A2 orr.length c2x)
      replace ho := own_setCell (p := ⟨km, 12, none⟩) ho (own_ne ho bl2 (by decide)) (.slice A2 orr.length c2x)
      replace hol0 := own_setCell (p := ⟨km, 12, none⟩) hol0 (own_ne hol0 bl2 (by decide)) (.slice A2 orr.length c2x)
      replace hol1 := own_setCell (p := ⟨km, 12, none⟩) hol1 (own_ne hol1 bl2 (by decide)) (.slice A2 orr.length c2x)
      replace hol2 := own_setCell (p := ⟨km, 12, none⟩) hol2 (own_ne hol2 bl2 (by decide)) (.slice A2 orr.length c2x)
      go_wp2_with fail
      skip
      rw [rounds_succ]
      go_upto_region 13 with (fail)
      have BF : Below w.heap.size w (wl2.setCell ⟨km, 12, none⟩ (.slice A2 orr.length c2x)) := BB0.grown GN2 BB0.size (fun k e => by injection e with e; omega)
      generalize hWF : (wl2.setCell ⟨km, 12, none⟩ (.slice A2 orr.length c2x)) = WF at *
      clear hWF
      obtain ⟨at9, bad9⟩ := rr
      have u1 : WF.cell? ⟨g, 1, none⟩ = some (.int .i64 at9) := (blk_cell HN2.blk 1).trans rfl
      have u2 : WF.cell? ⟨g, 2, none⟩ = some (.bool bad9) := (blk_cell HN2.blk 2).trans rfl
      have hr5 := HR5.out
      dsimp only at hr5
      clear HR5
      have hr6 : (bad9 = true ∧ got0 700 = r) ∨ (bad9 = false ∧ (at9 != (s.size : Int)) = true ∧ got0 700 = r) ∨ (bad9 = false ∧ (at9 != (s.size : Int)) = false ∧ (⟨Hd.getH s, oq, oa, on, orr, 0⟩ : Got) = r) := by
        cases bad9 with
        | true => exact .inl ⟨rfl, Option.some.inj (by simpa using hr5)⟩
        | false =>
          by_cases e : at9 = (s.size : Int)
          · exact .inr (.inr ⟨rfl, by simpa using e, Option.some.inj (by simpa [e] using hr5)⟩)
          · exact .inr (.inl ⟨rfl, by simpa using e, Option.some.inj (by simpa [e] using hr5)⟩)
      have HR6 := Lib.hid hr6
      clear hr5 hr6
      have v0 := cell_regrown u1
      have v1 := cell_regrown u2
      rcases HR6.out with ⟨rfl, rfl⟩ | ⟨rfl, hat, rfl⟩ | ⟨rfl, hat, rfl⟩
      · have B1 : Below WF.heap.size WF WF := Below.refl _ _
        have pp := blk_below pn2 B1
        have bb := blk_below bn2 B1
        have BG := BF.trans (B1.mono BF.size)
        have x0 : WF.cell? ⟨w.heap.size, 0, none⟩ = some (.int .i64 0) := (blk_cell pp 0).trans rfl
        have x1 : WF.cell? ⟨w.heap.size, 1, none⟩ = some (.bool false) := (blk_cell pp 1).trans rfl
        have x2 : WF.cell? ⟨w.heap.size, 2, none⟩ = some (.int .i64 0) := (blk_cell pp 2).trans rfl
        have x3 : WF.cell? ⟨w.heap.size, 3, none⟩ = some (.bool false) := (blk_cell pp 3).trans rfl
        have x4 : WF.cell? ⟨w.heap.size, 4, none⟩ = some (.bool false) := (blk_cell pp 4).trans rfl
        have x5 : WF.cell? ⟨w.heap.size, 5, none⟩ = some (.bool false) := (blk_cell pp 5).trans rfl
        have x6 : WF.cell? ⟨w.heap.size, 6, none⟩ = some (.bool false) := (blk_cell pp 6).trans rfl
        have x7 : WF.cell? ⟨w.heap.size, 7, none⟩ = some (.int .i64 0) := (blk_cell pp 7).trans rfl
        have x8 : WF.cell? ⟨w.heap.size, 8, none⟩ = some (.int .i64 0) := (blk_cell pp 8).trans rfl
        have x9 : WF.cell? ⟨w.heap.size, 9, none⟩ = some (.slice none 0 0) := (blk_cell pp 9).trans rfl
        have x10 : WF.cell? ⟨w.heap.size, 10, none⟩ = some (.slice none 0 0) := (blk_cell pp 10).trans rfl
        have x11 : WF.cell? ⟨w.heap.size, 11, none⟩ = some (.slice none 0 0) := (blk_cell pp 11).trans rfl
        have x12 : WF.cell? ⟨w.heap.size, 12, none⟩ = some (.slice none 0 0) := (blk_cell pp 12).trans rfl
        have y0 := blk_frozen pp 0
        have y1 := blk_frozen pp 1
        have y2 := blk_frozen pp 2
        have y3 := blk_frozen pp 3
        have y4 := blk_frozen pp 4
        have y5 := blk_frozen pp 5
        have y6 := blk_frozen pp 6
        have y7 := blk_frozen pp 7
        have y8 := blk_frozen pp 8
        have y9 := blk_frozen pp 9
        have y10 := blk_frozen pp 10
        have y11 := blk_frozen pp 11
        have y12 := blk_frozen pp 12
        have pF := putAll_blk 0 [.int .i64 0, .bool false, .int .i64 0, .bool false, .bool false, .bool false, .bool false, .int .i64 0, .int .i64 0, .slice none 0 0, .slice none 0 0, .slice none 0 0, .slice none 0 0] #[.int .i64 0, .bool false, .int .i64 0, .bool false, .bool false, .bool false, .bool false, .int .i64 0, .int .i64 0, .slice none 0 0, .slice none 0 0, .slice none 0 0, .slice none 0 0] pp (by simp [setAll])
        have GF := putAll_grown (row := none) 0 [.int .i64 0, .bool false, .int .i64 0, .bool false, .bool false, .bool false, .bool false, .int .i64 0, .int .i64 0, .slice none 0 0, .slice none 0 0, .slice none 0 0, .slice none 0 0] (grown_below BG none) (Nat.le_refl _)
        simp only [putAll] at pF GF
        have e0 := (blk_cell pF 0).trans rfl
        have e1 := (blk_cell pF 1).trans rfl
        have e2 := (blk_cell pF 2).trans rfl
        have e3 := (blk_cell pF 3).trans rfl
        have e4 := (blk_cell pF 4).trans rfl
        have e5 := (blk_cell pF 5).trans rfl
        have e6 := (blk_cell pF 6).trans rfl
        have e7 := (blk_cell pF 7).trans rfl
        have e8 := (blk_cell pF 8).trans rfl
        have e9 := (blk_cell pF 9).trans rfl
        have e10 := (blk_cell pF 10).trans rfl
        have e11 := (blk_cell pF 11).trans rfl
        have e12 := (blk_cell pF 12).trans rfl
        go_wp2
        exact bodyPost_ret (v := .tuple #[.agg #[.int .i64 0, .bool false, .int .i64 0, .bool false, .bool false, .bool false, .bool false, .int .i64 0, .int .i64 0, .slice none 0 0, .slice none 0 0, .slice none 0 0, .slice none 0 0], .int .i64 700]) (by simp [results, Try.results35, go_sem, e0, e1, e2, e3, e4, e5, e6, e7, e8, e9, e10, e11, e12]) rfl (post0 s w _ 700 ⟨GF.os, GF.tape, GF.output, GF.size, fun k hk => GF.block k hk (by simp)⟩)
      · have B1 : Below WF.heap.size WF WF := Below.refl _ _
        have pp := blk_below pn2 B1
        have bb := blk_below bn2 B1
        have BG := BF.trans (B1.mono BF.size)
        have x0 : WF.cell? ⟨w.heap.size, 0, none⟩ = some (.int .i64 0) := (blk_cell pp 0).trans rfl
        have x1 : WF.cell? ⟨w.heap.size, 1, none⟩ = some (.bool false) := (blk_cell pp 1).trans rfl
        have x2 : WF.cell? ⟨w.heap.size, 2, none⟩ = some (.int .i64 0) := (blk_cell pp 2).trans rfl
        have x3 : WF.cell? ⟨w.heap.size, 3, none⟩ = some (.bool false) := (blk_cell pp 3).trans rfl
        have x4 : WF.cell? ⟨w.heap.size, 4, none⟩ = some (.bool false) := (blk_cell pp 4).trans rfl
        have x5 : WF.cell? ⟨w.heap.size, 5, none⟩ = some (.bool false) := (blk_cell pp 5).trans rfl
        have x6 : WF.cell? ⟨w.heap.size, 6, none⟩ = some (.bool false) := (blk_cell pp 6).trans rfl
        have x7 : WF.cell? ⟨w.heap.size, 7, none⟩ = some (.int .i64 0) := (blk_cell pp 7).trans rfl
        have x8 : WF.cell? ⟨w.heap.size, 8, none⟩ = some (.int .i64 0) := (blk_cell pp 8).trans rfl
        have x9 : WF.cell? ⟨w.heap.size, 9, none⟩ = some (.slice none 0 0) := (blk_cell pp 9).trans rfl
        have x10 : WF.cell? ⟨w.heap.size, 10, none⟩ = some (.slice none 0 0) := (blk_cell pp 10).trans rfl
        have x11 : WF.cell? ⟨w.heap.size, 11, none⟩ = some (.slice none 0 0) := (blk_cell pp 11).trans rfl
        have x12 : WF.cell? ⟨w.heap.size, 12, none⟩ = some (.slice none 0 0) := (blk_cell pp 12).trans rfl
        have y0 := blk_frozen pp 0
        have y1 := blk_frozen pp 1
        have y2 := blk_frozen pp 2
        have y3 := blk_frozen pp 3
        have y4 := blk_frozen pp 4
        have y5 := blk_frozen pp 5
        have y6 := blk_frozen pp 6
        have y7 := blk_frozen pp 7
        have y8 := blk_frozen pp 8
        have y9 := blk_frozen pp 9
        have y10 := blk_frozen pp 10
        have y11 := blk_frozen pp 11
        have y12 := blk_frozen pp 12
        have pF := putAll_blk 0 [.int .i64 0, .bool false, .int .i64 0, .bool false, .bool false, .bool false, .bool false, .int .i64 0, .int .i64 0, .slice none 0 0, .slice none 0 0, .slice none 0 0, .slice none 0 0] #[.int .i64 0, .bool false, .int .i64 0, .bool false, .bool false, .bool false, .bool false, .int .i64 0, .int .i64 0, .slice none 0 0, .slice none 0 0, .slice none 0 0, .slice none 0 0] pp (by simp [setAll])
        have GF := putAll_grown (row := none) 0 [.int .i64 0, .bool false, .int .i64 0, .bool false, .bool false, .bool false, .bool false, .int .i64 0, .int .i64 0, .slice none 0 0, .slice none 0 0, .slice none 0 0, .slice none 0 0] (grown_below BG none) (Nat.le_refl _)
        simp only [putAll] at pF GF
        have e0 := (blk_cell pF 0).trans rfl
        have e1 := (blk_cell pF 1).trans rfl
        have e2 := (blk_cell pF 2).trans rfl
        have e3 := (blk_cell pF 3).trans rfl
        have e4 := (blk_cell pF 4).trans rfl
        have e5 := (blk_cell pF 5).trans rfl
        have e6 := (blk_cell pF 6).trans rfl
        have e7 := (blk_cell pF 7).trans rfl
        have e8 := (blk_cell pF 8).trans rfl
        have e9 := (blk_cell pF 9).trans rfl
        have e10 := (blk_cell pF 10).trans rfl
        have e11 := (blk_cell pF 11).trans rfl
        have e12 := (blk_cell pF 12).trans rfl
        go_wp2
        exact bodyPost_ret (v := .tuple #[.agg #[.int .i64 0, .bool false, .int .i64 0, .bool false, .bool false, .bool false, .bool false, .int .i64 0, .int .i64 0, .slice none 0 0, .slice none 0 0, .slice none 0 0, .slice none 0 0], .int .i64 700]) (by simp [results, Try.results35, go_sem, e0, e1, e2, e3, e4, e5, e6, e7, e8, e9, e10, e11, e12]) rfl (post0 s w _ 700 ⟨GF.os, GF.tape, GF.output, GF.size, fun k hk => GF.block k hk (by simp)⟩)
      · have B1 : Below WF.heap.size WF WF := Below.refl _ _
        have pp := blk_below pn2 B1
        have bb := blk_below bn2 B1
        have BG := BF.trans (B1.mono BF.size)
        have x0 : WF.cell? ⟨w.heap.size, 0, none⟩ = some (.int .i64 0) := (blk_cell pp 0).trans rfl
        have x1 : WF.cell? ⟨w.heap.size, 1, none⟩ = some (.bool false) := (blk_cell pp 1).trans rfl
        have x2 : WF.cell? ⟨w.heap.size, 2, none⟩ = some (.int .i64 0) := (blk_cell pp 2).trans rfl
        have x3 : WF.cell? ⟨w.heap.size, 3, none⟩ = some (.bool false) := (blk_cell pp 3).trans rfl
        have x4 : WF.cell? ⟨w.heap.size, 4, none⟩ = some (.bool false) := (blk_cell pp 4).trans rfl
        have x5 : WF.cell? ⟨w.heap.size, 5, none⟩ = some (.bool false) := (blk_cell pp 5).trans rfl
        have x6 : WF.cell? ⟨w.heap.size, 6, none⟩ = some (.bool false) := (blk_cell pp 6).trans rfl
        have x7 : WF.cell? ⟨w.heap.size, 7, none⟩ = some (.int .i64 0) := (blk_cell pp 7).trans rfl
        have x8 : WF.cell? ⟨w.heap.size, 8, none⟩ = some (.int .i64 0) := (blk_cell pp 8).trans rfl
        have x9 : WF.cell? ⟨w.heap.size, 9, none⟩ = some (.slice none 0 0) := (blk_cell pp 9).trans rfl
        have x10 : WF.cell? ⟨w.heap.size, 10, none⟩ = some (.slice none 0 0) := (blk_cell pp 10).trans rfl
        have x11 : WF.cell? ⟨w.heap.size, 11, none⟩ = some (.slice none 0 0) := (blk_cell pp 11).trans rfl
        have x12 : WF.cell? ⟨w.heap.size, 12, none⟩ = some (.slice none 0 0) := (blk_cell pp 12).trans rfl
        have y0 := blk_frozen pp 0
        have y1 := blk_frozen pp 1
        have y2 := blk_frozen pp 2
        have y3 := blk_frozen pp 3
        have y4 := blk_frozen pp 4
        have y5 := blk_frozen pp 5
        have y6 := blk_frozen pp 6
        have y7 := blk_frozen pp 7
        have y8 := blk_frozen pp 8
        have y9 := blk_frozen pp 9
        have y10 := blk_frozen pp 10
        have y11 := blk_frozen pp 11
        have y12 := blk_frozen pp 12
        have z0 : WF.cell? ⟨km, 0, none⟩ = some (.int .i64 (Hd.getH s).id) := (blk_cell bb 0).trans rfl
        have z1 : WF.cell? ⟨km, 1, none⟩ = some (.bool (Hd.getH s).qr) := (blk_cell bb 1).trans rfl
        have z2 : WF.cell? ⟨km, 2, none⟩ = some (.int .i64 (Hd.getH s).op) := (blk_cell bb 2).trans rfl
        have z3 : WF.cell? ⟨km, 3, none⟩ = some (.bool (Hd.getH s).aa) := (blk_cell bb 3).trans rfl
        have z4 : WF.cell? ⟨km, 4, none⟩ = some (.bool (Hd.getH s).tc) := (blk_cell bb 4).trans rfl
        have z5 : WF.cell? ⟨km, 5, none⟩ = some (.bool (Hd.getH s).rd) := (blk_cell bb 5).trans rfl
        have z6 : WF.cell? ⟨km, 6, none⟩ = some (.bool (Hd.getH s).ra) := (blk_cell bb 6).trans rfl
        have z7 : WF.cell? ⟨km, 7, none⟩ = some (.int .i64 (Hd.getH s).z) := (blk_cell bb 7).trans rfl
        have z8 : WF.cell? ⟨km, 8, none⟩ = some (.int .i64 (Hd.getH s).rc) := (blk_cell bb 8).trans rfl
        have z9 : WF.cell? ⟨km, 9, none⟩ = some (.slice Aq oq.length cq) := (blk_cell bb 9).trans rfl
        have z10 : WF.cell? ⟨km, 10, none⟩ = some (.slice A0 oa.length c0x) := (blk_cell bb 10).trans rfl
        have z11 : WF.cell? ⟨km, 11, none⟩ = some (.slice A1 on.length c1x) := (blk_cell bb 11).trans rfl
        have z12 : WF.cell? ⟨km, 12, none⟩ = some (.slice A2 orr.length c2x) := (blk_cell bb 12).trans rfl
        have hle0 := BB0.size
        have hle1 := G3.size
        have hle2 := GL0.size
        have hle3 := GL1.size
        simp [World.setCell] at hle3
        go_wp2
        have pF := putAll_blk 0 [.int .i64 (Hd.getH s).id, .bool (Hd.getH s).qr, .int .i64 (Hd.getH s).op, .bool (Hd.getH s).aa, .bool (Hd.getH s).tc, .bool (Hd.getH s).rd, .bool (Hd.getH s).ra, .int .i64 (Hd.getH s).z, .int .i64 (Hd.getH s).rc, .slice Aq oq.length cq, .slice A0 oa.length c0x, .slice A1 on.length c1x, .slice A2 orr.length c2x] #[.int .i64 (Hd.getH s).id, .bool (Hd.getH s).qr, .int .i64 (Hd.getH s).op, .bool (Hd.getH s).aa, .bool (Hd.getH s).tc, .bool (Hd.getH s).rd, .bool (Hd.getH s).ra, .int .i64 (Hd.getH s).z, .int .i64 (Hd.getH s).rc, .slice Aq oq.length cq, .slice A0 oa.length c0x, .slice A1 on.length c1x, .slice A2 orr.length c2x] pp (by simp [setAll])
        have GF := putAll_grown (row := none) 0 [.int .i64 (Hd.getH s).id, .bool (Hd.getH s).qr, .int .i64 (Hd.getH s).op, .bool (Hd.getH s).aa, .bool (Hd.getH s).tc, .bool (Hd.getH s).rd, .bool (Hd.getH s).ra, .int .i64 (Hd.getH s).z, .int .i64 (Hd.getH s).rc, .slice Aq oq.length cq, .slice A0 oa.length c0x, .slice A1 on.length c1x, .slice A2 orr.length c2x] (grown_below BG none) (Nat.le_refl _)
        have o0 := putAll_own 0 [.int .i64 (Hd.getH s).id, .bool (Hd.getH s).qr, .int .i64 (Hd.getH s).op, .bool (Hd.getH s).aa, .bool (Hd.getH s).tc, .bool (Hd.getH s).rd, .bool (Hd.getH s).ra, .int .i64 (Hd.getH s).z, .int .i64 (Hd.getH s).rc, .slice Aq oq.length cq, .slice A0 oa.length c0x, .slice A1 on.length c1x, .slice A2 orr.length c2x] (Sl.own_below ho B1) (own_ne (Sl.own_below ho B1) pp (by decide))
        have o1 := putAll_own 0 [.int .i64 (Hd.getH s).id, .bool (Hd.getH s).qr, .int .i64 (Hd.getH s).op, .bool (Hd.getH s).aa, .bool (Hd.getH s).tc, .bool (Hd.getH s).rd, .bool (Hd.getH s).ra, .int .i64 (Hd.getH s).z, .int .i64 (Hd.getH s).rc, .slice Aq oq.length cq, .slice A0 oa.length c0x, .slice A1 on.length c1x, .slice A2 orr.length c2x] (Sl.own_below hol0 B1) (own_ne (Sl.own_below hol0 B1) pp (by decide))
        have o2 := putAll_own 0 [.int .i64 (Hd.getH s).id, .bool (Hd.getH s).qr, .int .i64 (Hd.getH s).op, .bool (Hd.getH s).aa, .bool (Hd.getH s).tc, .bool (Hd.getH s).rd, .bool (Hd.getH s).ra, .int .i64 (Hd.getH s).z, .int .i64 (Hd.getH s).rc, .slice Aq oq.length cq, .slice A0 oa.length c0x, .slice A1 on.length c1x, .slice A2 orr.length c2x] (Sl.own_below hol1 B1) (own_ne (Sl.own_below hol1 B1) pp (by decide))
        have o3 := putAll_own 0 [.int .i64 (Hd.getH s).id, .bool (Hd.getH s).qr, .int .i64 (Hd.getH s).op, .bool (Hd.getH s).aa, .bool (Hd.getH s).tc, .bool (Hd.getH s).rd, .bool (Hd.getH s).ra, .int .i64 (Hd.getH s).z, .int .i64 (Hd.getH s).rc, .slice Aq oq.length cq, .slice A0 oa.length c0x, .slice A1 on.length c1x, .slice A2 orr.length c2x] (Sl.own_below hol2 B1) (own_ne (Sl.own_below hol2 B1) pp (by decide))
        simp only [putAll] at pF GF o0 o1 o2 o3
        have e0 := (blk_cell pF 0).trans rfl
        have e1 := (blk_cell pF 1).trans rfl
        have e2 := (blk_cell pF 2).trans rfl
        have e3 := (blk_cell pF 3).trans rfl
        have e4 := (blk_cell pF 4).trans rfl
        have e5 := (blk_cell pF 5).trans rfl
        have e6 := (blk_cell pF 6).trans rfl
        have e7 := (blk_cell pF 7).trans rfl
        have e8 := (blk_cell pF 8).trans rfl
        have e9 := (blk_cell pF 9).trans rfl
        have e10 := (blk_cell pF 10).trans rfl
        have e11 := (blk_cell pF 11).trans rfl
        have e12 := (blk_cell pF 12).trans rfl
        refine bodyPost_ret (v := .tuple #[.agg #[.int .i64 (Hd.getH s).id, .bool (Hd.getH s).qr, .int .i64 (Hd.getH s).op, .bool (Hd.getH s).aa, .bool (Hd.getH s).tc, .bool (Hd.getH s).rd, .bool (Hd.getH s).ra, .int .i64 (Hd.getH s).z, .int .i64 (Hd.getH s).rc, .slice Aq oq.length cq, .slice A0 oa.length c0x, .slice A1 on.length c1x, .slice A2 orr.length c2x], .int .i64 0]) (by simp [results, Try.results35, go_sem, e0, e1, e2, e3, e4, e5, e6, e7, e8, e9, e10, e11, e12]) rfl ?_
        refine ⟨_, _, _, _, rfl, own_lower o0 (by omega), own_lower o1 (by omega), own_lower o2 (by simp; omega), own_lower o3 (by simp; omega), ?k1, ?k2, ?k3, ⟨GF.os, GF.tape, GF.output, GF.size, fun k hk => GF.block k hk (by simp)⟩⟩
        case k1 => exact fun k hk => ⟨fun q => by have a := lt0.out k hk; have b := bs1.out k q.symm; simp [World.setCell] at b; omega, fun q => by have a := lt0.out k hk; have b := bs2.out k q.symm; simp [World.setCell] at b; omega⟩
        case k2 => exact fun k hk => ⟨fun q => by have a := lt0.out k q.symm; have b := bs1.out k hk; simp [World.setCell] at b; omega, fun q => by have a := lt1.out k hk; have b := bs2.out k q.symm; simp [World.setCell] at b; omega⟩
        case k3 => exact fun k hk => ⟨fun q => by have a := lt0.out k q.symm; have b := bs2.out k hk; simp [World.setCell] at b; omega, fun q => by have a := lt1.out k q.symm; have b := bs2.out k hk; simp [World.setCell] at b; omega⟩
end Go.Proofs.Ytjklgdpffmaamaa.Wm

namespace Go.Proofs.Ytjklgdpffmaamaa.Wm
open Go.RowKit Go.PlainAid Go.Proofs.Ytjklgdpffmaamaa.Base
open Go.Proofs.YtjklgdpffmaamaaW.PrintWords (LeO Kd Reps OwnRow)
set_option linter.unusedVariables false
theorem questV_mono (k : Nat) (s : ByteArray) (r : Rs) : LeO (questV k s r) (questV (k + 1) s r) := by
  unfold questV
  exact LeO.bind (PCm.comp_Name.mono _ _ _) (fun _ => LeO.refl _)
theorem recV_mono (k : Nat) (s : ByteArray) (r : Rs) : LeO (recV k s r) (recV (k + 1) s r) := by
  unfold recV
  exact LeO.bind (questV_mono _ _ _) (fun _ => LeO.bind (PCm.comp_Data.mono _ _ _ _ _) (fun _ => LeO.refl _))
theorem loopQ_mono (k : Nat) (s : ByteArray) : ∀ (n : Nat) (r : Rs) (acc : List Qn), LeO (loopQ k s n r acc) (loopQ (k + 1) s n r acc)
  | 0, _, _ => LeO.refl _
  | n + 1, r, acc => LeO.ite (LeO.refl _) (LeO.bind (questV_mono _ _ _) (fun x => loopQ_mono k s n x.2 _))
theorem loopR_mono (k : Nat) (s : ByteArray) : ∀ (n : Nat) (r : Rs) (acc : List Rr), LeO (loopR k s n r acc) (loopR (k + 1) s n r acc)
  | 0, _, _ => LeO.refl _
  | n + 1, r, acc => LeO.ite (LeO.refl _) (LeO.bind (recV_mono _ _ _) (fun x => loopR_mono k s n x.2 _))
theorem listQ_mono (k : Nat) (s : ByteArray) (n : Nat) (r : Rs) : LeO (listQ k s n r) (listQ (k + 1) s n r) := loopQ_mono _ _ _ _ _
theorem listR_mono (k : Nat) (s : ByteArray) (n : Nat) (r : Rs) : LeO (listR k s n r) (listR (k + 1) s n r) := loopR_mono _ _ _ _ _
theorem getV_mono (k : Nat) (s : ByteArray) : LeO (getV k s) (getV (k + 1) s) := by
  unfold getV
  exact LeO.ite (LeO.refl _) (LeO.ite (LeO.refl _) (LeO.bind (listQ_mono _ _ _ _) (fun _ => LeO.bind (listR_mono _ _ _ _) (fun _ => LeO.bind (listR_mono _ _ _ _) (fun _ => LeO.bind (listR_mono _ _ _ _) (fun _ => LeO.refl _))))))
def getF (k : Nat) (s : ByteArray) : Option Got := if s.size ≤ 9223372036854775000 then getV k s else none
theorem getF_mono (k : Nat) (s : ByteArray) : LeO (getF k s) (getF (k + 1) s) := LeO.ite (getV_mono k s) (LeO.refl _)
theorem getFc {k : Nat} {s : ByteArray} {r : Got} (h : getF k s = some r) (w : World) : Calls Try.prog 35 #[.string s] w (GetPost s w r) := by
  unfold getF at h
  by_cases hs : s.size ≤ 9223372036854775000
  · rw [if_pos hs] at h; exact getc s w hs h
  · rw [if_neg hs] at h; cases h
theorem reps_cons {α : Type} {R : α → List Value → Prop} {size : Nat} {ps : List α} {cs c : List Value} {p : α} (hp : R p c) (hc : c.length = size) (h : Reps R size ps cs) : Reps R size (p :: ps) (c ++ cs) := by
  refine ⟨by rw [List.length_append, h.1, hc, List.length_cons, Nat.add_mul, Nat.one_mul, Nat.add_comm], fun j q hq => ?_⟩
  cases j with
  | zero =>
    obtain rfl : p = q := by simpa using hq
    rw [Nat.zero_mul, List.drop_zero, ← hc, List.take_left']
    · exact hp
    · rfl
  | succ j =>
    have := h.2 j q (by simpa using hq)
    have e : (c ++ cs).drop ((j + 1) * size) = cs.drop (j * size) := by
      rw [Nat.add_mul, Nat.one_mul, Nat.add_comm, ← List.drop_drop, ← hc, List.drop_left']
      rfl
    rw [e]
    exact this
theorem qkd {α : Type} (d : Kd α) (e : Nat) (g : Qn → α) (hM : ∀ w base ok q, d.M w base ok (g q) (cellQ q).toList) (hsz : d.sz = 3) {w : World} {b : Nat} {ok : Nat → Prop} {v : Value} {qs : List Qn} (h : w.ownsRow b e 3 v qs.length (cellsQ qs)) (hok : ∀ k, v.ownBlock = some k → ok k) : Kd.R d e w b ok v (qs.map g) := by
  refine ⟨hok, cellsQ qs, by rw [hsz, List.length_map]; exact h, ?_⟩
  rw [hsz]
  clear h
  induction qs with
  | nil => exact Reps.none _ _
  | cons q qs ih => exact reps_cons (hM _ _ _ q) rfl ih
theorem rkd {α : Type} (d : Kd α) (e : Nat) (g : Rr → α) (hM : ∀ w base ok q, d.M w base ok (g q) (cellR q).toList) (hsz : d.sz = 5) {w : World} {b : Nat} {ok : Nat → Prop} {v : Value} {qs : List Rr} (h : w.ownsRow b e 5 v qs.length (cellsR qs)) (hok : ∀ k, v.ownBlock = some k → ok k) : Kd.R d e w b ok v (qs.map g) := by
  refine ⟨hok, cellsR qs, by rw [hsz, List.length_map]; exact h, ?_⟩
  rw [hsz]
  clear h
  induction qs with
  | nil => exact Reps.none _ _
  | cons q qs ih => exact reps_cons (hM _ _ _ q) rfl ih
end Go.Proofs.Ytjklgdpffmaamaa.Wm

namespace Go.Proofs.Ytjklgdpffmaamaa.PWb
open Go.RowKit Go.Proofs.YtjklgdpffmaamaaW.PrintWords Go.Proofs.YtjklgdpffmaamaaW.PrintLast Go.Proofs.YtjklgdpffmaamaaW.PrintMore
attribute [local go_sem] max2_int min2_int max_two min_two max_three min_three max_four min_four   -- for this text's walks alone
set_option linter.unusedVariables false
set_option linter.unusedSimpArgs false

def errW : Option Int → Value
  | none => .nilIface
  | some c => .iface 0 (.int .i64 c)
theorem errW_none : errW none = .nilIface := rfl
theorem errW_some (c : Int) : errW (some c) = .iface 0 (.int .i64 c) := rfl

theorem info5 : (Try.prog.info? 5).map (fun i => (i.zero, i.size, i.bytes)) = some (some (.int .u8 0), 1, 1) := by kernel_rfl
-- the values' own types
/-! #### struct type 40 -/
structure S40 where
  f0 : ByteArray
  f1 : Int
  f2 : Int
def z40 : S40 := ⟨(⟨#[]⟩ : ByteArray), (0 : Int), (0 : Int)⟩
def k40 : Kd S40 := Kd.iso (Kd.pair Kd.string (Kd.pair (Kd.int .i64) (Kd.int .i64))) (fun x : S40 => (x.f0, x.f1, x.f2))
theorem k40_open {w : World} {x : S40} {cs : List Value} (h : k40.K w x cs) : cs = [.string x.f0, .int .i64 x.f1, .int .i64 x.f2] := by
  obtain ⟨_, _, rfl, rfl, ⟨_, _, rfl, rfl, rfl⟩⟩ := h
  exact rfl
theorem k40_mkM (w : World) (base : Nat) (ok : Nat → Prop) (x : S40)  : k40.M w base ok x [.string x.f0, .int .i64 x.f1, .int .i64 x.f2] := ⟨[.string x.f0], [.int .i64 x.f1, .int .i64 x.f2], rfl, rfl, ⟨[.int .i64 x.f1], [.int .i64 x.f2], rfl, rfl, rfl⟩⟩
def rd_T40 (xs : List S40) (i : Int) : S40 := xs.getD i.toNat z40
theorem at_T40 {w : World} {A : Option Addr} {n : Nat} {xs : List S40} (h : Kd.C k40 w A n xs) (i : Int) (h0 : 0 ≤ i) (h1 : i < n) : ∃ ad , A = some ad ∧ w.cell? (ad.add (i.toNat * 3)) = some (.string (rd_T40 xs i).f0) ∧ w.cell? ⟨(ad.add (i.toNat * 3)).block, (ad.add (i.toNat * 3)).off + 1, none⟩ = some (.int .i64 (rd_T40 xs i).f1) ∧ w.cell? ⟨(ad.add (i.toNat * 3)).block, (ad.add (i.toNat * 3)).off + 2, none⟩ = some (.int .i64 (rd_T40 xs i).f2) := by
  obtain ⟨ad, c, e, _, hK, hc0⟩ := Kd.C_get h z40 i h0 h1
  have hc : ∀ j u, c[j]? = some u → w.cell? (ad.add (i.toNat * 3 + j)) = some u := hc0
  obtain rfl := k40_open hK
  exact ⟨ad, e, hc 0 _ rfl, by rw [← add_field _ _ 1 (by omega)]; exact hc 1 _ rfl, by rw [← add_field _ _ 2 (by omega)]; exact hc 2 _ rfl⟩

/-! #### struct type 53 -/
structure S53 where
  f0 : ByteArray
  f1 : Int
  f2 : Int
  f3 : Int
  f4 : ByteArray
def z53 : S53 := ⟨(⟨#[]⟩ : ByteArray), (0 : Int), (0 : Int), (0 : Int), (⟨#[]⟩ : ByteArray)⟩
def k53 : Kd S53 := Kd.iso (Kd.pair Kd.string (Kd.pair (Kd.int .i64) (Kd.pair (Kd.int .i64) (Kd.pair (Kd.int .i64) Kd.string)))) (fun x : S53 => (x.f0, x.f1, x.f2, x.f3, x.f4))
theorem k53_open {w : World} {x : S53} {cs : List Value} (h : k53.K w x cs) : cs = [.string x.f0, .int .i64 x.f1, .int .i64 x.f2, .int .i64 x.f3, .string x.f4] := by
  obtain ⟨_, _, rfl, rfl, ⟨_, _, rfl, rfl, ⟨_, _, rfl, rfl, ⟨_, _, rfl, rfl, rfl⟩⟩⟩⟩ := h
  exact rfl
theorem k53_mkM (w : World) (base : Nat) (ok : Nat → Prop) (x : S53)  : k53.M w base ok x [.string x.f0, .int .i64 x.f1, .int .i64 x.f2, .int .i64 x.f3, .string x.f4] := ⟨[.string x.f0], [.int .i64 x.f1, .int .i64 x.f2, .int .i64 x.f3, .string x.f4], rfl, rfl, ⟨[.int .i64 x.f1], [.int .i64 x.f2, .int .i64 x.f3, .string x.f4], rfl, rfl, ⟨[.int .i64 x.f2], [.int .i64 x.f3, .string x.f4], rfl, rfl, ⟨[.int .i64 x.f3], [.string x.f4], rfl, rfl, rfl⟩⟩⟩⟩
def rd_T53 (xs : List S53) (i : Int) : S53 := xs.getD i.toNat z53
theorem at_T53 {w : World} {A : Option Addr} {n : Nat} {xs : List S53} (h : Kd.C k53 w A n xs) (i : Int) (h0 : 0 ≤ i) (h1 : i < n) : ∃ ad , A = some ad ∧ w.cell? (ad.add (i.toNat * 5)) = some (.string (rd_T53 xs i).f0) ∧ w.cell? ⟨(ad.add (i.toNat * 5)).block, (ad.add (i.toNat * 5)).off + 1, none⟩ = some (.int .i64 (rd_T53 xs i).f1) ∧ w.cell? ⟨(ad.add (i.toNat * 5)).block, (ad.add (i.toNat * 5)).off + 2, none⟩ = some (.int .i64 (rd_T53 xs i).f2) ∧ w.cell? ⟨(ad.add (i.toNat * 5)).block, (ad.add (i.toNat * 5)).off + 3, none⟩ = some (.int .i64 (rd_T53 xs i).f3) ∧ w.cell? ⟨(ad.add (i.toNat * 5)).block, (ad.add (i.toNat * 5)).off + 4, none⟩ = some (.string (rd_T53 xs i).f4) := by
  obtain ⟨ad, c, e, _, hK, hc0⟩ := Kd.C_get h z53 i h0 h1
  have hc : ∀ j u, c[j]? = some u → w.cell? (ad.add (i.toNat * 5 + j)) = some u := hc0
  obtain rfl := k53_open hK
  exact ⟨ad, e, hc 0 _ rfl, by rw [← add_field _ _ 1 (by omega)]; exact hc 1 _ rfl, by rw [← add_field _ _ 2 (by omega)]; exact hc 2 _ rfl, by rw [← add_field _ _ 3 (by omega)]; exact hc 3 _ rfl, by rw [← add_field _ _ 4 (by omega)]; exact hc 4 _ rfl⟩

end Go.Proofs.Ytjklgdpffmaamaa.PWb

namespace Go.Proofs.Ytjklgdpffmaamaa.PWb
open Go.RowKit Go.Proofs.YtjklgdpffmaamaaW.PrintWords Go.Proofs.YtjklgdpffmaamaaW.PrintLast Go.Proofs.YtjklgdpffmaamaaW.PrintMore
attribute [local go_sem] max2_int min2_int max_two min_two max_three min_three max_four min_four   -- for this text's walks alone
set_option linter.unusedVariables false
set_option linter.unusedSimpArgs false

theorem eqA23 (d : Nat) (w : World) (x0 y0 : Int) (x1 y1 : Bool) (x2 y2 : Int) (x3 y3 : Bool) (x4 y4 : Bool) (x5 y5 : Bool) (x6 y6 : Bool) (x7 y7 : Int) (x8 y8 : Int) :
    (Op.equalIn (d + 2) 23 (.agg #[.int .i64 x0, .bool x1, .int .i64 x2, .bool x3, .bool x4, .bool x5, .bool x6, .int .i64 x7, .int .i64 x8]) (.agg #[.int .i64 y0, .bool y1, .int .i64 y2, .bool y3, .bool y4, .bool y5, .bool y6, .int .i64 y7, .int .i64 y8])).run Try.prog w = .ok (x0 == y0 && (x1 == y1 && (x2 == y2 && (x3 == y3 && (x4 == y4 && (x5 == y5 && (x6 == y6 && (x7 == y7 && (x8 == y8))))))))) w := by
  refine eqA_of Try.underlying23 (by kernel_rfl) ?_
  refine eqf_cons (by rfl) (by go_simp; rfl) (by go_simp; rfl) (by go_simp) ?_
  refine eqf_cons (by rfl) (by go_simp; rfl) (by go_simp; rfl) (by go_simp) ?_
  refine eqf_cons (by rfl) (by go_simp; rfl) (by go_simp; rfl) (by go_simp) ?_
  refine eqf_cons (by rfl) (by go_simp; rfl) (by go_simp; rfl) (by go_simp) ?_
  refine eqf_cons (by rfl) (by go_simp; rfl) (by go_simp; rfl) (by go_simp) ?_
  refine eqf_cons (by rfl) (by go_simp; rfl) (by go_simp; rfl) (by go_simp) ?_
  refine eqf_cons (by rfl) (by go_simp; rfl) (by go_simp; rfl) (by go_simp) ?_
  refine eqf_cons (by rfl) (by go_simp; rfl) (by go_simp; rfl) (by go_simp) ?_
  exact eqf_last (by rfl) (by go_simp; rfl) (by go_simp; rfl) (by go_simp)
end Go.Proofs.Ytjklgdpffmaamaa.PWb

namespace Go.Proofs.Ytjklgdpffmaamaa.PWb
open Go.RowKit Go.Proofs.YtjklgdpffmaamaaW.PrintWords Go.Proofs.YtjklgdpffmaamaaW.PrintLast Go.Proofs.YtjklgdpffmaamaaW.PrintMore
attribute [local go_sem] max2_int min2_int max_two min_two max_three min_three max_four min_four   -- for this text's walks alone
set_option linter.unusedVariables false
set_option linter.unusedSimpArgs false

theorem eqA40 (d : Nat) (w : World) (x0 y0 : ByteArray) (x1 y1 : Int) (x2 y2 : Int) :
    (Op.equalIn (d + 2) 40 (.agg #[.string x0, .int .i64 x1, .int .i64 x2]) (.agg #[.string y0, .int .i64 y1, .int .i64 y2])).run Try.prog w = .ok (x0.toList == y0.toList && (x1 == y1 && (x2 == y2))) w := by
  refine eqA_of Try.underlying40 (by kernel_rfl) ?_
  refine eqf_cons (by rfl) (by go_simp; rfl) (by go_simp; rfl) (by go_simp) ?_
  refine eqf_cons (by rfl) (by go_simp; rfl) (by go_simp; rfl) (by go_simp) ?_
  exact eqf_last (by rfl) (by go_simp; rfl) (by go_simp; rfl) (by go_simp)
end Go.Proofs.Ytjklgdpffmaamaa.PWb

namespace Go.Proofs.Ytjklgdpffmaamaa.PWb
open Go.RowKit Go.Proofs.YtjklgdpffmaamaaW.PrintWords Go.Proofs.YtjklgdpffmaamaaW.PrintLast Go.Proofs.YtjklgdpffmaamaaW.PrintMore
attribute [local go_sem] max2_int min2_int max_two min_two max_three min_three max_four min_four   -- for this text's walks alone
set_option linter.unusedVariables false
set_option linter.unusedSimpArgs false

theorem eqA53 (d : Nat) (w : World) (x0 y0 : ByteArray) (x1 y1 : Int) (x2 y2 : Int) (x3 y3 : Int) (x4 y4 : ByteArray) :
    (Op.equalIn (d + 2) 53 (.agg #[.string x0, .int .i64 x1, .int .i64 x2, .int .i64 x3, .string x4]) (.agg #[.string y0, .int .i64 y1, .int .i64 y2, .int .i64 y3, .string y4])).run Try.prog w = .ok (x0.toList == y0.toList && (x1 == y1 && (x2 == y2 && (x3 == y3 && (x4.toList == y4.toList))))) w := by
  refine eqA_of Try.underlying53 (by kernel_rfl) ?_
  refine eqf_cons (by rfl) (by go_simp; rfl) (by go_simp; rfl) (by go_simp) ?_
  refine eqf_cons (by rfl) (by go_simp; rfl) (by go_simp; rfl) (by go_simp) ?_
  refine eqf_cons (by rfl) (by go_simp; rfl) (by go_simp; rfl) (by go_simp) ?_
  refine eqf_cons (by rfl) (by go_simp; rfl) (by go_simp; rfl) (by go_simp) ?_
  exact eqf_last (by rfl) (by go_simp; rfl) (by go_simp; rfl) (by go_simp)
end Go.Proofs.Ytjklgdpffmaamaa.PWb
