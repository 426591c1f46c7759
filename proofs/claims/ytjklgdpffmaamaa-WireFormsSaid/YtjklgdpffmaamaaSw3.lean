/- wire's reader: number, question, record: what each answers, and what it leaves in the reader. -/
import Derived.BigQuiet
import Derived.Lib.QuietBelow
import Derived.Deep.RegionWith
import Derived.Deep.RegionHeld3
import Derived.Deep.CutBlock
import Derived.Laws.BitsLemmas
import Derived.Test.YtjklgdpffmaamaaSw1
import Derived.Test.YtjklgdpffmaamaaSw2
namespace Go.Proofs.Ytjklgdpffmaamaa.PCm
open Go.RowKit Go.Proofs.YtjklgdpffmaamaaW.PrintWords Go.Proofs.YtjklgdpffmaamaaW.PrintLast Go.Proofs.YtjklgdpffmaamaaW.PrintMore
attribute [local go_sem] max2_int min2_int max_two min_two max_three min_three max_four min_four   -- for this text's walks alone
set_option linter.unusedVariables false
set_option linter.unusedSimpArgs false

/-! ### rdata_May: function 102 -/
def rdata_May.f (a0 : Int) (a1 : ByteArray) : Option (Bool) := if a1.size ≤ 9223372036854775000 then some (Go.Proofs.Ytjklgdpffmaamaa.Rd.mayD a0 a1) else none
set_option maxHeartbeats 8000000 in
set_option maxRecDepth 100000 in
theorem rdata_May.calls (a0 : Int) (a1 : ByteArray) (r : Bool) (w : World) (h : rdata_May.f a0 a1 = some r) :
    Calls Try.prog 102 #[.int .i64 a0, .string a1] w fun e w' => e = .returned (.bool r) ∧ Below w.heap.size w w' := by
  unfold rdata_May.f at h
  split at h
  · rename_i hs
    simp only [Option.some.injEq] at h
    subst h
    exact Go.Proofs.Ytjklgdpffmaamaa.Rd.dmay a0 a1 w hs
  · cases h

/-! ### comp_shape: function 104 -/
def comp_shape.j0 : Nat → Int → Bool → Option (Int × Int × Int)
  | 0, _, _ => none
  | k + 1, x5, x6 => if x6 = true then (some (0, 1, 0)) else (if x5 = 15 then (some (2, 1, 0)) else (if x5 = 6 then (some (0, 2, 20)) else (some (0, 0, 0))))
def comp_shape.f (k : Nat) (a0 : Int) : Option (Int × Int × Int) := if a0 = 2 then (comp_shape.j0 k a0 (a0 == 2)) else (if a0 = 5 then (comp_shape.j0 k a0 (a0 == 5)) else (comp_shape.j0 k a0 (a0 == 12)))
theorem comp_shape.mono_l : ∀ k, (∀ y0 y1, LeO (comp_shape.j0 k y0 y1) (comp_shape.j0 (k + 1) y0 y1))
  | 0 => fun _ _ r h => by simp [comp_shape.j0] at h
  | k + 1 => by
    have ih0 := comp_shape.mono_l k
    · intro y0 y1
      unfold comp_shape.j0
      repeat' first
      | (with_reducible exact ih0 _ _)
      | (with_reducible exact LeO.refl _)
      | (with_reducible exact LeO.none _)
      | (with_reducible refine LeO.ite ?_ ?_)
      | (with_reducible refine LeO.bind ?_ (fun _ => ?_))
      | exact ih0 _ _
      | exact LeO.none _
      | refine LeO.ite ?_ ?_
      | refine LeO.bind ?_ (fun _ => ?_)
theorem comp_shape.mono : ∀ a0 k, LeO (comp_shape.f k a0) (comp_shape.f (k + 1) a0) := by
  intro a0 k
  have ih0 := comp_shape.mono_l k
  unfold comp_shape.f
  repeat' first
      | (with_reducible exact ih0 _ _)
      | (with_reducible exact LeO.refl _)
      | (with_reducible exact LeO.none _)
      | (with_reducible refine LeO.ite ?_ ?_)
      | (with_reducible refine LeO.bind ?_ (fun _ => ?_))
      | exact ih0 _ _
      | exact LeO.none _
      | refine LeO.ite ?_ ?_
      | refine LeO.bind ?_ (fun _ => ?_)
set_option maxHeartbeats 8000000 in
set_option maxRecDepth 100000 in
theorem comp_shape.calls (k : Nat) (a0 : Int) (r1 : Int) (r2 : Int) (r3 : Int) (w : World) (h : comp_shape.f k a0 = some (r1, r2, r3)) :
    Calls Try.prog 104 #[.int .i64 a0] w fun e w' => e = .returned (.tuple #[.int .i64 r1, .int .i64 r2, .int .i64 r3]) ∧ Drawn0 w w' := by
  have H : (if a0 = 2 then (comp_shape.j0 k a0 (a0 == 2)) else (if a0 = 5 then (comp_shape.j0 k a0 (a0 == 5)) else (comp_shape.j0 k a0 (a0 == 12)))) = some (r1, r2, r3) := h
  clear h
  have HC2 := Aside0.mk H
  clear H
  go_enter Try.func104, Try.ntmps104
  go_upto_if 6 with (fail)
  go_cut [6] (fun v6 wc => ∃ (kq : Nat) (x6_1 : Bool), v6 = .bool x6_1 ∧ Aside0 (comp_shape.j0 kq a0 x6_1 = some (r1, r2, r3)) ∧ Aside0 (kq ≤ k) ∧ Drawn0 w wc)
  case first =>
    have H := HC2.out
    clear HC2
    by_cases c3 : a0 = 2
    · rw [if_pos c3] at H
      have c3b0 : (a0 == 2) = true := beq_iff_eq.mpr c3
      have c3b1 : (a0 != 2) = false := bne_eq_false_iff_eq.mpr c3
      clear c3
      (first | rw [c3b0] | (simp only [i64_w, i32_w]; rw [c3b0]) | skip)
      have H' := Aside0.mk H
      clear H
      go_wp2
      go_meet
      case rel => exact ⟨_, ((a0 == 2)), (by first | rfl | (simp; done) | (simp [*]; done)), H', ⟨by first | omega | exact Nat.le_refl _⟩, by repeat (first | exact Drawn0.refl _ | apply Drawn0.step)⟩
    · rw [if_neg c3] at H
      have c3b0 : (a0 == 2) = false := beq_eq_false_iff_ne.mpr c3
      have c3b1 : (a0 != 2) = true := bne_iff_ne.mpr c3
      (first | rw [c3b0] | (simp only [i64_w, i32_w]; rw [c3b0]) | skip)
      by_cases c4 : a0 = 5
      · rw [if_pos c4] at H
        have c4b0 : (a0 == 5) = true := beq_iff_eq.mpr c4
        have c4b1 : (a0 != 5) = false := bne_eq_false_iff_eq.mpr c4
        clear c4
        have H' := Aside0.mk H
        clear H
        go_wp2
        go_meet
        case rel => exact ⟨_, ((a0 == 5)), (by first | rfl | (simp; done) | (simp [*]; done)), H', ⟨by first | omega | exact Nat.le_refl _⟩, by repeat (first | exact Drawn0.refl _ | apply Drawn0.step)⟩
      · rw [if_neg c4] at H
        have c4b0 : (a0 == 5) = false := beq_eq_false_iff_ne.mpr c4
        have c4b1 : (a0 != 5) = true := bne_iff_ne.mpr c4
        have H' := Aside0.mk H
        clear H
        go_wp2
        go_meet
        case rel => exact ⟨_, ((a0 == 12)), (by first | rfl | (simp; done) | (simp [*]; done)), H', ⟨by first | omega | exact Nat.le_refl _⟩, by repeat (first | exact Drawn0.refl _ | apply Drawn0.step)⟩
  case rest =>
    clear HC2
    try clear c1
    try clear p2
    try clear c3
    try clear c3b0
    try clear c3b1
    try clear c4
    try clear c4b0
    try clear c4b1
    obtain ⟨kq, x6_1, rfl, HA, HJ1, ⟨mc1, rfl⟩⟩ := hcut
    cases kq with
    | zero => exact absurd HA.out (by simp [comp_shape.j0])
    | succ kj1 =>
      have H := HA.out
      clear HA
      simp only [comp_shape.j0] at H
      by_cases c5 : x6_1 = true
      · subst c5
        have H1 : (some (0, 1, 0)) = some (r1, r2, r3) := by rw [if_pos rfl] at H; exact H
        clear H
        have H := H1
        clear H1
        simp only [Option.some.injEq, Prod.mk.injEq] at H
        obtain ⟨rfl, rfl, rfl⟩ := H
        go_wp2
        go_ret3
        exact ⟨by first | rfl | (simp; done) | (simp [*]; done), by repeat (first | exact Drawn0.refl _ | apply Drawn0.step)⟩
      · replace c5 := Bool.eq_false_iff.mpr c5
        subst c5
        have H1 : (if a0 = 15 then (some (2, 1, 0)) else (if a0 = 6 then (some (0, 2, 20)) else (some (0, 0, 0)))) = some (r1, r2, r3) := by rw [if_neg (show ¬ (false = true) by decide)] at H; exact H
        clear H
        have H := H1
        clear H1
        by_cases c6 : a0 = 15
        · rw [if_pos c6] at H
          have c6b0 : (a0 == 15) = true := beq_iff_eq.mpr c6
          have c6b1 : (a0 != 15) = false := bne_eq_false_iff_eq.mpr c6
          clear c6
          simp only [Option.some.injEq, Prod.mk.injEq] at H
          obtain ⟨rfl, rfl, rfl⟩ := H
          go_wp2
          go_ret3
          exact ⟨by first | rfl | (simp; done) | (simp [*]; done), by repeat (first | exact Drawn0.refl _ | apply Drawn0.step)⟩
        · rw [if_neg c6] at H
          have c6b0 : (a0 == 15) = false := beq_eq_false_iff_ne.mpr c6
          have c6b1 : (a0 != 15) = true := bne_iff_ne.mpr c6
          by_cases c7 : a0 = 6
          · rw [if_pos c7] at H
            have c7b0 : (a0 == 6) = true := beq_iff_eq.mpr c7
            have c7b1 : (a0 != 6) = false := bne_eq_false_iff_eq.mpr c7
            clear c7
            simp only [Option.some.injEq, Prod.mk.injEq] at H
            obtain ⟨rfl, rfl, rfl⟩ := H
            go_wp2
            go_ret3
            exact ⟨by first | rfl | (simp; done) | (simp [*]; done), by repeat (first | exact Drawn0.refl _ | apply Drawn0.step)⟩
          · rw [if_neg c7] at H
            have c7b0 : (a0 == 6) = false := beq_eq_false_iff_ne.mpr c7
            have c7b1 : (a0 != 6) = true := bne_iff_ne.mpr c7
            simp only [Option.some.injEq, Prod.mk.injEq] at H
            obtain ⟨rfl, rfl, rfl⟩ := H
            go_wp2
            go_ret3
            exact ⟨by first | rfl | (simp; done) | (simp [*]; done), by repeat (first | exact Drawn0.refl _ | apply Drawn0.step)⟩

/-! ### comp_names: function 105 -/
def comp_names.l0 : Nat → ByteArray → Int → ByteArray → Int → Int → Option (ByteArray × Int × Int)
  | 0, _, _, _, _, _ => none
  | k + 1, x0, x1, x9, x13, x14 => if x14 < x13 then ((comp_Name.f k x0 x1).bind fun bt113 => (if bt113.2.2 = 0 then (if x9.size + bt113.1.size ≤ 9223372036854775807 then (comp_names.l0 k x0 bt113.2.1 (x9 ++ bt113.1) x13 (wrap64 (x14 + 1))) else (none)) else (some ((⟨#[]⟩ : ByteArray), 0, bt113.2.2)))) else (some (x9, x1, 0))
def comp_names.f (k : Nat) (a0 : ByteArray) (a1 : Int) (a2 : Int) : Option (ByteArray × Int × Int) := comp_names.l0 k a0 a1 (⟨#[]⟩ : ByteArray) a2 0
theorem comp_names.mono_l : ∀ k, (∀ y0 y1 y2 y3 y4, LeO (comp_names.l0 k y0 y1 y2 y3 y4) (comp_names.l0 (k + 1) y0 y1 y2 y3 y4))
  | 0 => fun _ _ _ _ _ r h => by simp [comp_names.l0] at h
  | k + 1 => by
    have ih0 := comp_names.mono_l k
    · intro y0 y1 y2 y3 y4
      unfold comp_names.l0
      repeat' first
      | (with_reducible exact ih0 _ _ _ _ _)
      | (with_reducible exact comp_Name.mono _ _ _)
      | (with_reducible exact LeO.refl _)
      | (with_reducible exact LeO.none _)
      | (with_reducible refine LeO.ite ?_ ?_)
      | (with_reducible refine LeO.bind ?_ (fun _ => ?_))
      | exact ih0 _ _ _ _ _
      | exact comp_Name.mono _ _ _
      | exact LeO.none _
      | refine LeO.ite ?_ ?_
      | refine LeO.bind ?_ (fun _ => ?_)
theorem comp_names.mono : ∀ a0 a1 a2 k, LeO (comp_names.f k a0 a1 a2) (comp_names.f (k + 1) a0 a1 a2) := by
  intro a0 a1 a2 k
  have ih0 := comp_names.mono_l k
  unfold comp_names.f
  repeat' first
      | (with_reducible exact ih0 _ _ _ _ _)
      | (with_reducible exact comp_Name.mono _ _ _)
      | (with_reducible exact LeO.refl _)
      | (with_reducible exact LeO.none _)
      | (with_reducible refine LeO.ite ?_ ?_)
      | (with_reducible refine LeO.bind ?_ (fun _ => ?_))
      | exact ih0 _ _ _ _ _
      | exact comp_Name.mono _ _ _
      | exact LeO.none _
      | refine LeO.ite ?_ ?_
      | refine LeO.bind ?_ (fun _ => ?_)
set_option maxHeartbeats 8000000 in
set_option maxRecDepth 100000 in
theorem comp_names.calls (k : Nat) (a0 : ByteArray) (a1 : Int) (a2 : Int) (r1 : ByteArray) (r2 : Int) (r3 : Int) (w : World) (h : comp_names.f k a0 a1 a2 = some (r1, r2, r3)) :
    Calls Try.prog 105 #[.string a0, .int .i64 a1, .int .i64 a2] w fun e w' => e = .returned (.tuple #[.string r1, .int .i64 r2, .int .i64 r3]) ∧ Below w.heap.size w w' := by
  have HB := Aside0.mk (Below.refl w.heap.size w)
  have H : (comp_names.l0 k a0 a1 (⟨#[]⟩ : ByteArray) a2 0) = some (r1, r2, r3) := h
  clear h
  have H' := Aside0.mk H
  clear H
  go_enter Try.func105, Try.ntmps105
  go_wp2
  go_loopg [1, 9, 14] k (fun kq v1 v9 v14 w' => ∃ (x1_1 : Int) (x9_1 : ByteArray) (x14_1 : Int), v1 = .int .i64 x1_1 ∧ v9 = .string x9_1 ∧ v14 = .int .i64 x14_1 ∧ Aside0 (comp_names.l0 kq a0 x1_1 x9_1 a2 x14_1 = some (r1, r2, r3)) ∧ Aside0 (kq ≤ k) ∧ Aside0 (Below w.heap.size w w'))
  case atStart => exact ⟨(a1), ((⟨#[]⟩ : ByteArray)), (0), (by first | rfl | (simp; done) | (simp [*]; done)), (by first | rfl | (simp; done) | (simp [*]; done)), (by first | rfl | (simp; done) | (simp [*]; done)), H', ⟨Nat.le_refl _⟩, ⟨by repeat (first | (with_reducible first | exact HB.out | apply below_alloc | apply pw_below_drewN | apply below_drew1) | exact HB.out)⟩⟩
  case round =>
    clear H'
    try clear c1
    try clear p2
    obtain ⟨x1_1, x9_1, x14_1, rfl, rfl, rfl, HA, HK1, HB⟩ := hrel
    cases gk with
    | zero => exact absurd HA.out (by simp [comp_names.l0])
    | succ k1 =>
      have H := HA.out
      clear HA
      simp only [comp_names.l0] at H
      by_cases c4 : x14_1 < a2
      · rw [if_pos c4] at H
        have c4b0 : decide (x14_1 < a2) = true := decide_eq_true c4
        clear c4
        replace H := Option.bind_eq_some_iff.mp H
        obtain ⟨⟨t113, t114, t115⟩, A50, H⟩ := H
        replace H : (if t115 = 0 then (if x9_1.size + t113.size ≤ 9223372036854775807 then (comp_names.l0 k1 a0 t114 (x9_1 ++ t113) a2 (wrap64 (x14_1 + 1))) else (none)) else (some ((⟨#[]⟩ : ByteArray), 0, t115))) = some (r1, r2, r3) := H
        have A5 := Aside0.mk A50
        clear A50
        by_cases c6 : t115 = 0
        · rw [if_pos c6] at H
          have c6b0 : (t115 == 0) = true := beq_iff_eq.mpr c6
          have c6b1 : (t115 != 0) = false := bne_eq_false_iff_eq.mpr c6
          clear c6
          by_cases c7 : x9_1.size + t113.size ≤ 9223372036854775807
          · rw [if_pos c7] at H
            have c7b0 := eq_true c7
            have c7b1 : decide (x9_1.size + t113.size ≤ 9223372036854775807) = true := decide_eq_true c7
            try have c7b2 : (9223372036854775807 < x9_1.size + t113.size) = False := eq_false (Nat.not_lt.2 c7)
            have H' := Aside0.mk H
            clear H
            go_wp2_with (first | ((with_reducible refine gate_dst (N := 19) rfl ?_); (with_reducible refine gate_callee (f := 94) rfl ?_); refine goesL_ (some 19) rfl rfl Try.func94 (by kernel_rfl) rfl #[.string a0, .int .i64 x1_1] rfl (by (try simp only [List.map_toArray, List.map_cons, List.map_nil]); first | done | rfl | (simp only [List.length_drop, List.length_take]; rfl)) ?_; (with_reducible refine (comp_Name.calls k1 a0 x1_1 t113 t114 t115 _ A5.out).mono ?_); rintro e w8 ⟨rfl, hb⟩; refine ⟨_, rfl, ?_⟩; have n0_ := Aside0.mk (below_step (by repeat (first | (with_reducible first | exact HB.out | apply below_alloc | apply pw_below_drewN | apply below_drew1) | exact HB.out)) hb); clear HB; have HB := n0_; clear n0_; (try clear hb); (try clear hb2); (try clear hk); (try clear hi)))
            go_roundg k1
            case measure => have := HK1.out; omega
            case rel => exact ⟨(t114), (x9_1 ++ t113), (wrap64 (x14_1 + 1)), (by first | rfl | (simp; done) | (simp [*]; done)), (by first | rfl | (simp; done) | (simp [*]; done)), (by first | rfl | (simp; done) | (simp [*]; done)), H', ⟨by have := HK1.out; omega⟩, ⟨by repeat (first | (with_reducible first | exact HB.out | apply below_alloc | apply pw_below_drewN | apply below_drew1) | exact HB.out)⟩⟩
          · rw [if_neg c7] at H
            exact absurd H (by simp)
        · rw [if_neg c6] at H
          have c6b0 : (t115 == 0) = false := beq_eq_false_iff_ne.mpr c6
          have c6b1 : (t115 != 0) = true := bne_iff_ne.mpr c6
          simp only [Option.some.injEq, Prod.mk.injEq] at H
          obtain ⟨rfl, rfl, rfl⟩ := H
          go_wp2_with (first | ((with_reducible refine gate_dst (N := 19) rfl ?_); (with_reducible refine gate_callee (f := 94) rfl ?_); refine goesL_ (some 19) rfl rfl Try.func94 (by kernel_rfl) rfl #[.string a0, .int .i64 x1_1] rfl (by (try simp only [List.map_toArray, List.map_cons, List.map_nil]); first | done | rfl | (simp only [List.length_drop, List.length_take]; rfl)) ?_; (with_reducible refine (comp_Name.calls k1 a0 x1_1 t113 t114 t115 _ A5.out).mono ?_); rintro e w9 ⟨rfl, hb⟩; refine ⟨_, rfl, ?_⟩; have n0_ := Aside0.mk (below_step (by repeat (first | (with_reducible first | exact HB.out | apply below_alloc | apply pw_below_drewN | apply below_drew1) | exact HB.out)) hb); clear HB; have HB := n0_; clear n0_; (try clear hb); (try clear hb2); (try clear hk); (try clear hi)))
          go_ret3
          exact ⟨by first | rfl | (simp [errW_none, errW_some] <;> rfl) | (simp [*, errW_none, errW_some] <;> rfl), by repeat (first | (with_reducible first | exact HB.out | apply below_alloc | apply pw_below_drewN | apply below_drew1) | exact HB.out)⟩
      · rw [if_neg c4] at H
        have c4b0 : decide (x14_1 < a2) = false := decide_eq_false c4
        clear c4
        simp only [Option.some.injEq, Prod.mk.injEq] at H
        obtain ⟨rfl, rfl, rfl⟩ := H
        go_wp2
        go_ret3
        exact ⟨by first | rfl | (simp [errW_none, errW_some] <;> rfl) | (simp [*, errW_none, errW_some] <;> rfl), by repeat (first | (with_reducible first | exact HB.out | apply below_alloc | apply pw_below_drewN | apply below_drew1) | exact HB.out)⟩

/-! ### comp_Data: function 97 -/
mutual
def comp_Data.j0 : Nat → ByteArray → Int → Int → Int → Bool → Option (ByteArray × Int)
  | 0, _, _, _, _, _ => none
  | k + 1, x0, x1, x2, x3, x37 => if x37 = true then (some ((⟨#[]⟩ : ByteArray), 500)) else (if 0 ≤ x1 then (if x1 ≤ (wrap64 (x1 + x2)) then (if (wrap64 (x1 + x2)) ≤ (x0.size : Int) then ((comp_shape.f k x3).bind fun bt116 => (if bt116.2.1 > 0 then (if x2 < (wrap64 (bt116.1 + bt116.2.2)) then (some ((⟨#[]⟩ : ByteArray), 500)) else ((comp_names.f k x0 (wrap64 (x1 + bt116.1)) bt116.2.1).bind fun bt119 => (if bt119.2.2 = 0 then (comp_Data.j1 k x0 x1 x3 (wrap64 (x1 + x2)) bt116.1 bt119.1 bt119.2.1 (bt119.2.1 != (wrap64 ((wrap64 (x1 + x2)) - bt116.2.2)))) else (comp_Data.j1 k x0 x1 x3 (wrap64 (x1 + x2)) bt116.1 bt119.1 bt119.2.1 true)))) else ((rdata_May.f x3 (x0.extract (x1 : Int).toNat ((wrap64 (x1 + x2)) : Int).toNat)).bind fun t123 => (if t123 = true then (some (x0.extract (x1 : Int).toNat ((wrap64 (x1 + x2)) : Int).toNat, 0)) else (some ((⟨#[]⟩ : ByteArray), 500)))))) else (none)) else (none)) else (none))
def comp_Data.j1 : Nat → ByteArray → Int → Int → Int → Int → ByteArray → Int → Bool → Option (ByteArray × Int)
  | 0, _, _, _, _, _, _, _, _ => none
  | k + 1, x0, x1, x3, x10, x12, x15, x16, x76 => if x76 = true then (some ((⟨#[]⟩ : ByteArray), 500)) else (if 0 ≤ x1 then (if x1 ≤ (wrap64 (x1 + x12)) then (if (wrap64 (x1 + x12)) ≤ (x0.size : Int) then (if (x0.extract (x1 : Int).toNat ((wrap64 (x1 + x12)) : Int).toNat).size + x15.size ≤ 9223372036854775807 then (if 0 ≤ x16 then (if x16 ≤ x10 then (if x10 ≤ (x0.size : Int) then (if ((x0.extract (x1 : Int).toNat ((wrap64 (x1 + x12)) : Int).toNat) ++ x15).size + (x0.extract (x16 : Int).toNat (x10 : Int).toNat).size ≤ 9223372036854775807 then ((rdata_May.f x3 (((x0.extract (x1 : Int).toNat ((wrap64 (x1 + x12)) : Int).toNat) ++ x15) ++ (x0.extract (x16 : Int).toNat (x10 : Int).toNat))).bind fun t122 => (if t122 = true then (some (((x0.extract (x1 : Int).toNat ((wrap64 (x1 + x12)) : Int).toNat) ++ x15) ++ (x0.extract (x16 : Int).toNat (x10 : Int).toNat), 0)) else (some ((⟨#[]⟩ : ByteArray), 500)))) else (none)) else (none)) else (none)) else (none)) else (none)) else (none)) else (none)) else (none))
end
def comp_Data.f (k : Nat) (a0 : ByteArray) (a1 : Int) (a2 : Int) (a3 : Int) : Option (ByteArray × Int) := if a1 < 0 then (comp_Data.j0 k a0 a1 a2 a3 true) else (if a2 < 0 then (comp_Data.j0 k a0 a1 a2 a3 true) else (if a1 > (a0.size : Int) then (comp_Data.j0 k a0 a1 a2 a3 true) else (comp_Data.j0 k a0 a1 a2 a3 (decide (a2 > (wrap64 ((a0.size : Int) - a1)))))))
theorem comp_Data.mono_l : ∀ k, (∀ y0 y1 y2 y3 y4, LeO (comp_Data.j0 k y0 y1 y2 y3 y4) (comp_Data.j0 (k + 1) y0 y1 y2 y3 y4)) ∧ (∀ y0 y1 y2 y3 y4 y5 y6 y7, LeO (comp_Data.j1 k y0 y1 y2 y3 y4 y5 y6 y7) (comp_Data.j1 (k + 1) y0 y1 y2 y3 y4 y5 y6 y7))
  | 0 => ⟨fun _ _ _ _ _ r h => by simp [comp_Data.j0] at h, fun _ _ _ _ _ _ _ _ r h => by simp [comp_Data.j1] at h⟩
  | k + 1 => by
    obtain ⟨ih0, ih1⟩ := comp_Data.mono_l k
    refine ⟨?_, ?_⟩
    · intro y0 y1 y2 y3 y4
      unfold comp_Data.j0
      repeat' first
      | (with_reducible exact ih0 _ _ _ _ _)
      | (with_reducible exact ih1 _ _ _ _ _ _ _ _)
      | (with_reducible exact comp_names.mono _ _ _ _)
      | (with_reducible exact comp_shape.mono _ _)
      | (with_reducible exact LeO.refl _)
      | (with_reducible exact LeO.none _)
      | (with_reducible refine LeO.ite ?_ ?_)
      | (with_reducible refine LeO.bind ?_ (fun _ => ?_))
      | exact ih0 _ _ _ _ _
      | exact ih1 _ _ _ _ _ _ _ _
      | exact comp_names.mono _ _ _ _
      | exact comp_shape.mono _ _
      | exact LeO.none _
      | refine LeO.ite ?_ ?_
      | refine LeO.bind ?_ (fun _ => ?_)
    · intro y0 y1 y2 y3 y4 y5 y6 y7
      unfold comp_Data.j1
      repeat' first
      | (with_reducible exact ih0 _ _ _ _ _)
      | (with_reducible exact ih1 _ _ _ _ _ _ _ _)
      | (with_reducible exact comp_names.mono _ _ _ _)
      | (with_reducible exact comp_shape.mono _ _)
      | (with_reducible exact LeO.refl _)
      | (with_reducible exact LeO.none _)
      | (with_reducible refine LeO.ite ?_ ?_)
      | (with_reducible refine LeO.bind ?_ (fun _ => ?_))
      | exact ih0 _ _ _ _ _
      | exact ih1 _ _ _ _ _ _ _ _
      | exact comp_names.mono _ _ _ _
      | exact comp_shape.mono _ _
      | exact LeO.none _
      | refine LeO.ite ?_ ?_
      | refine LeO.bind ?_ (fun _ => ?_)
theorem comp_Data.mono : ∀ a0 a1 a2 a3 k, LeO (comp_Data.f k a0 a1 a2 a3) (comp_Data.f (k + 1) a0 a1 a2 a3) := by
  intro a0 a1 a2 a3 k
  obtain ⟨ih0, ih1⟩ := comp_Data.mono_l k
  unfold comp_Data.f
  repeat' first
      | (with_reducible exact ih0 _ _ _ _ _)
      | (with_reducible exact ih1 _ _ _ _ _ _ _ _)
      | (with_reducible exact comp_names.mono _ _ _ _)
      | (with_reducible exact comp_shape.mono _ _)
      | (with_reducible exact LeO.refl _)
      | (with_reducible exact LeO.none _)
      | (with_reducible refine LeO.ite ?_ ?_)
      | (with_reducible refine LeO.bind ?_ (fun _ => ?_))
      | exact ih0 _ _ _ _ _
      | exact ih1 _ _ _ _ _ _ _ _
      | exact comp_names.mono _ _ _ _
      | exact comp_shape.mono _ _
      | exact LeO.none _
      | refine LeO.ite ?_ ?_
      | refine LeO.bind ?_ (fun _ => ?_)
set_option maxHeartbeats 8000000 in
set_option maxRecDepth 100000 in
theorem comp_Data.calls (k : Nat) (a0 : ByteArray) (a1 : Int) (a2 : Int) (a3 : Int) (r1 : ByteArray) (r2 : Int) (w : World) (h : comp_Data.f k a0 a1 a2 a3 = some (r1, r2)) :
    Calls Try.prog 97 #[.string a0, .int .i64 a1, .int .i64 a2, .int .i64 a3] w fun e w' => e = .returned (.tuple #[.string r1, .int .i64 r2]) ∧ Below w.heap.size w w' := by
  have HB := Aside0.mk (Below.refl w.heap.size w)
  have H : (if a1 < 0 then (comp_Data.j0 k a0 a1 a2 a3 true) else (if a2 < 0 then (comp_Data.j0 k a0 a1 a2 a3 true) else (if a1 > (a0.size : Int) then (comp_Data.j0 k a0 a1 a2 a3 true) else (comp_Data.j0 k a0 a1 a2 a3 (decide (a2 > (wrap64 ((a0.size : Int) - a1)))))))) = some (r1, r2) := h
  clear h
  have HC5 := Aside0.mk H
  clear H
  go_enter Try.func97, Try.ntmps97
  go_upto_region 1 with (fail)
  repeat (go_quiet (fail); go_upto_region 1 with (fail))
  go_cut [37] (fun v37 wc => ∃ (kq : Nat) (x37_4 : Bool), v37 = .bool x37_4 ∧ Aside0 (comp_Data.j0 kq a0 a1 a2 a3 x37_4 = some (r1, r2)) ∧ Aside0 (kq ≤ k) ∧ Aside0 (Below w.heap.size w wc))
  case first =>
    have H := HC5.out
    clear HC5
    by_cases c6 : a1 < 0
    · rw [if_pos c6] at H
      have c6b0 : decide (a1 < 0) = true := decide_eq_true c6
      clear c6
      (first | rw [c6b0] | (simp only [i64_w, i32_w]; rw [c6b0]) | skip)
      have H' := Aside0.mk H
      clear H
      go_wp2
      repeat (go_quiet (fail); try go_wp2)
      go_meet
      case rel => exact ⟨_, (true), (by first | rfl | (simp; done) | (simp [*]; done)), H', ⟨by first | omega | exact Nat.le_refl _⟩, ⟨by repeat (first | (with_reducible first | exact HB.out | apply below_alloc | apply pw_below_drewN | apply below_drew1) | exact HB.out)⟩⟩
    · rw [if_neg c6] at H
      have c6b0 : decide (a1 < 0) = false := decide_eq_false c6
      clear c6
      (first | rw [c6b0] | (simp only [i64_w, i32_w]; rw [c6b0]) | skip)
      by_cases c7 : a2 < 0
      · rw [if_pos c7] at H
        have c7b0 : decide (a2 < 0) = true := decide_eq_true c7
        clear c7
        have H' := Aside0.mk H
        clear H
        go_wp2
        repeat (go_quiet (fail); try go_wp2)
        go_meet
        case rel => exact ⟨_, (true), (by first | rfl | (simp; done) | (simp [*]; done)), H', ⟨by first | omega | exact Nat.le_refl _⟩, ⟨by repeat (first | (with_reducible first | exact HB.out | apply below_alloc | apply pw_below_drewN | apply below_drew1) | exact HB.out)⟩⟩
      · rw [if_neg c7] at H
        have c7b0 : decide (a2 < 0) = false := decide_eq_false c7
        clear c7
        by_cases c8 : a1 > (a0.size : Int)
        · rw [if_pos c8] at H
          have c8b0 : decide ((a0.size : Int) < a1) = true := decide_eq_true c8
          clear c8
          have H' := Aside0.mk H
          clear H
          go_wp2
          repeat (go_quiet (fail); try go_wp2)
          go_meet
          case rel => exact ⟨_, (true), (by first | rfl | (simp; done) | (simp [*]; done)), H', ⟨by first | omega | exact Nat.le_refl _⟩, ⟨by repeat (first | (with_reducible first | exact HB.out | apply below_alloc | apply pw_below_drewN | apply below_drew1) | exact HB.out)⟩⟩
        · rw [if_neg c8] at H
          have c8b0 : decide ((a0.size : Int) < a1) = false := decide_eq_false c8
          clear c8
          have H' := Aside0.mk H
          clear H
          go_wp2
          repeat (go_quiet (fail); try go_wp2)
          go_meet
          case rel => exact ⟨_, (decide (a2 > (wrap64 ((a0.size : Int) - a1)))), (by first | rfl | (simp; done) | (simp [*]; done)), H', ⟨by first | omega | exact Nat.le_refl _⟩, ⟨by repeat (first | (with_reducible first | exact HB.out | apply below_alloc | apply pw_below_drewN | apply below_drew1) | exact HB.out)⟩⟩
  case rest =>
    clear HC5
    try clear p2
    try clear c6
    try clear c6b0
    try clear p6
    try clear c7
    try clear c7b0
    try clear c8
    try clear c8b0
    obtain ⟨kq, x37_4, rfl, HA, HJ4, HB⟩ := hcut
    cases kq with
    | zero => exact absurd HA.out (by simp [comp_Data.j0])
    | succ kj4 =>
      have H := HA.out
      clear HA
      simp only [comp_Data.j0] at H
      by_cases c9 : x37_4 = true
      · subst c9
        have H1 : (some ((⟨#[]⟩ : ByteArray), 500)) = some (r1, r2) := by rw [if_pos rfl] at H; exact H
        clear H
        have H := H1
        clear H1
        simp only [Option.some.injEq, Prod.mk.injEq] at H
        obtain ⟨rfl, rfl⟩ := H
        go_wp2
        repeat (go_quiet (fail); try go_wp2)
        go_ret2
        exact ⟨by first | rfl | (simp [errW_none, errW_some] <;> rfl) | (simp [*, errW_none, errW_some] <;> rfl), by repeat (first | (with_reducible first | exact HB.out | apply below_alloc | apply pw_below_drewN | apply below_drew1) | exact HB.out)⟩
      · replace c9 := Bool.eq_false_iff.mpr c9
        subst c9
        have H1 : (if 0 ≤ a1 then (if a1 ≤ (wrap64 (a1 + a2)) then (if (wrap64 (a1 + a2)) ≤ (a0.size : Int) then ((comp_shape.f kj4 a3).bind fun bt116 => (if bt116.2.1 > 0 then (if a2 < (wrap64 (bt116.1 + bt116.2.2)) then (some ((⟨#[]⟩ : ByteArray), 500)) else ((comp_names.f kj4 a0 (wrap64 (a1 + bt116.1)) bt116.2.1).bind fun bt119 => (if bt119.2.2 = 0 then (comp_Data.j1 kj4 a0 a1 a3 (wrap64 (a1 + a2)) bt116.1 bt119.1 bt119.2.1 (bt119.2.1 != (wrap64 ((wrap64 (a1 + a2)) - bt116.2.2)))) else (comp_Data.j1 kj4 a0 a1 a3 (wrap64 (a1 + a2)) bt116.1 bt119.1 bt119.2.1 true)))) else ((rdata_May.f a3 (a0.extract (a1 : Int).toNat ((wrap64 (a1 + a2)) : Int).toNat)).bind fun t123 => (if t123 = true then (some (a0.extract (a1 : Int).toNat ((wrap64 (a1 + a2)) : Int).toNat, 0)) else (some ((⟨#[]⟩ : ByteArray), 500)))))) else (none)) else (none)) else (none)) = some (r1, r2) := by rw [if_neg (show ¬ (false = true) by decide)] at H; exact H
        clear H
        have H := H1
        clear H1
        by_cases c10 : 0 ≤ a1
        · rw [if_pos c10] at H
          have c10b0 := eq_true c10
          have c10b1 : decide (0 ≤ a1) = true := decide_eq_true c10
          clear c10
          by_cases c11 : a1 ≤ (wrap64 (a1 + a2))
          · rw [if_pos c11] at H
            have c11b0 := eq_true c11
            have c11b1 : decide (a1 ≤ (wrap64 (a1 + a2))) = true := decide_eq_true c11
            by_cases c12 : (wrap64 (a1 + a2)) ≤ (a0.size : Int)
            · rw [if_pos c12] at H
              have c12b0 := eq_true c12
              have c12b1 : decide ((wrap64 (a1 + a2)) ≤ (a0.size : Int)) = true := decide_eq_true c12
              replace H := Option.bind_eq_some_iff.mp H
              obtain ⟨⟨t116, t117, t118⟩, A130, H⟩ := H
              replace H : (if t117 > 0 then (if a2 < (wrap64 (t116 + t118)) then (some ((⟨#[]⟩ : ByteArray), 500)) else ((comp_names.f kj4 a0 (wrap64 (a1 + t116)) t117).bind fun bt119 => (if bt119.2.2 = 0 then (comp_Data.j1 kj4 a0 a1 a3 (wrap64 (a1 + a2)) t116 bt119.1 bt119.2.1 (bt119.2.1 != (wrap64 ((wrap64 (a1 + a2)) - t118)))) else (comp_Data.j1 kj4 a0 a1 a3 (wrap64 (a1 + a2)) t116 bt119.1 bt119.2.1 true)))) else ((rdata_May.f a3 (a0.extract (a1 : Int).toNat ((wrap64 (a1 + a2)) : Int).toNat)).bind fun t123 => (if t123 = true then (some (a0.extract (a1 : Int).toNat ((wrap64 (a1 + a2)) : Int).toNat, 0)) else (some ((⟨#[]⟩ : ByteArray), 500))))) = some (r1, r2) := H
              have A13 := Aside0.mk A130
              clear A130
              by_cases c14 : t117 > 0
              · rw [if_pos c14] at H
                have c14b0 : decide (0 < t117) = true := decide_eq_true c14
                clear c14
                by_cases c15 : a2 < (wrap64 (t116 + t118))
                · rw [if_pos c15] at H
                  have c15b0 : decide (a2 < (wrap64 (t116 + t118))) = true := decide_eq_true c15
                  clear c15
                  simp only [Option.some.injEq, Prod.mk.injEq] at H
                  obtain ⟨rfl, rfl⟩ := H
                  go_wp2_with (first | (go_at_call 104; (with_reducible refine (comp_shape.calls kj4 a3 t116 t117 t118 _ A13.out).mono ?_); rintro e w' ⟨rfl, ⟨nd, rfl⟩⟩; (try first | exact ⟨rfl, _, World.drewN_drewN _ _ _⟩ | exact ⟨rfl, _, Eq.trans (World.drewN_drewN _ _ _) (congrArg (World.drewN _) (Nat.add_assoc _ _ _))⟩)))
                  repeat (go_quiet (first | (go_at_call 104; (with_reducible refine (comp_shape.calls kj4 a3 t116 t117 t118 _ A13.out).mono ?_); rintro e w' ⟨rfl, ⟨nd, rfl⟩⟩; (try first | exact ⟨rfl, _, World.drewN_drewN _ _ _⟩ | exact ⟨rfl, _, Eq.trans (World.drewN_drewN _ _ _) (congrArg (World.drewN _) (Nat.add_assoc _ _ _))⟩))); try go_wp2_with (first | (go_at_call 104; (with_reducible refine (comp_shape.calls kj4 a3 t116 t117 t118 _ A13.out).mono ?_); rintro e w' ⟨rfl, ⟨nd, rfl⟩⟩; (try first | exact ⟨rfl, _, World.drewN_drewN _ _ _⟩ | exact ⟨rfl, _, Eq.trans (World.drewN_drewN _ _ _) (congrArg (World.drewN _) (Nat.add_assoc _ _ _))⟩))))
                  go_ret2
                  exact ⟨by first | rfl | (simp [errW_none, errW_some] <;> rfl) | (simp [*, errW_none, errW_some] <;> rfl), by repeat (first | (with_reducible first | exact HB.out | apply below_alloc | apply pw_below_drewN | apply below_drew1) | exact HB.out)⟩
                · rw [if_neg c15] at H
                  have c15b0 : decide (a2 < (wrap64 (t116 + t118))) = false := decide_eq_false c15
                  clear c15
                  replace H := Option.bind_eq_some_iff.mp H
                  obtain ⟨⟨t119, t120, t121⟩, A160, H⟩ := H
                  replace H : (if t121 = 0 then (comp_Data.j1 kj4 a0 a1 a3 (wrap64 (a1 + a2)) t116 t119 t120 (t120 != (wrap64 ((wrap64 (a1 + a2)) - t118)))) else (comp_Data.j1 kj4 a0 a1 a3 (wrap64 (a1 + a2)) t116 t119 t120 true)) = some (r1, r2) := H
                  have A16 := Aside0.mk A160
                  clear A160
                  have HC17 := Aside0.mk H
                  clear H
                  go_upto_region 10 with (first | (go_at_call 104; (with_reducible refine (comp_shape.calls kj4 a3 t116 t117 t118 _ A13.out).mono ?_); rintro e w' ⟨rfl, ⟨nd, rfl⟩⟩; (try first | exact ⟨rfl, _, World.drewN_drewN _ _ _⟩ | exact ⟨rfl, _, Eq.trans (World.drewN_drewN _ _ _) (congrArg (World.drewN _) (Nat.add_assoc _ _ _))⟩)) | (go_at_call 105; (with_reducible refine (comp_names.calls kj4 a0 (wrap64 (a1 + t116)) t117 t119 t120 t121 _ A16.out).mono ?_); rintro e w18 ⟨rfl, hb⟩; have n0_ := Aside0.mk (below_step (by repeat (first | (with_reducible first | exact HB.out | apply below_alloc | apply pw_below_drewN | apply below_drew1) | exact HB.out)) hb); clear HB; have HB := n0_; clear n0_; (try clear hb); (try clear hb2); (try clear hk); (try clear hi)))
                  repeat (go_quiet (first | (go_at_call 104; (with_reducible refine (comp_shape.calls kj4 a3 t116 t117 t118 _ A13.out).mono ?_); rintro e w' ⟨rfl, ⟨nd, rfl⟩⟩; (try first | exact ⟨rfl, _, World.drewN_drewN _ _ _⟩ | exact ⟨rfl, _, Eq.trans (World.drewN_drewN _ _ _) (congrArg (World.drewN _) (Nat.add_assoc _ _ _))⟩)) | (go_at_call 105; (with_reducible refine (comp_names.calls kj4 a0 (wrap64 (a1 + t116)) t117 t119 t120 t121 _ A16.out).mono ?_); rintro e w18 ⟨rfl, hb⟩; have n0_ := Aside0.mk (below_step (by repeat (first | (with_reducible first | exact HB.out | apply below_alloc | apply pw_below_drewN | apply below_drew1) | exact HB.out)) hb); clear HB; have HB := n0_; clear n0_; (try clear hb); (try clear hb2); (try clear hk); (try clear hi))); go_upto_region 10 with (first | (go_at_call 104; (with_reducible refine (comp_shape.calls kj4 a3 t116 t117 t118 _ A13.out).mono ?_); rintro e w' ⟨rfl, ⟨nd, rfl⟩⟩; (try first | exact ⟨rfl, _, World.drewN_drewN _ _ _⟩ | exact ⟨rfl, _, Eq.trans (World.drewN_drewN _ _ _) (congrArg (World.drewN _) (Nat.add_assoc _ _ _))⟩)) | (go_at_call 105; (with_reducible refine (comp_names.calls kj4 a0 (wrap64 (a1 + t116)) t117 t119 t120 t121 _ A16.out).mono ?_); rintro e w18 ⟨rfl, hb⟩; have n0_ := Aside0.mk (below_step (by repeat (first | (with_reducible first | exact HB.out | apply below_alloc | apply pw_below_drewN | apply below_drew1) | exact HB.out)) hb); clear HB; have HB := n0_; clear n0_; (try clear hb); (try clear hb2); (try clear hk); (try clear hi))))
                  (try simp only [Act.put, List.setIfInBounds_toArray, List.set_cons_zero, List.set_cons_succ])
                  go_cut [76] (fun v76 wc => ∃ (kq : Nat) (x76_16 : Bool), v76 = .bool x76_16 ∧ Aside0 (comp_Data.j1 kq a0 a1 a3 (wrap64 (a1 + a2)) t116 t119 t120 x76_16 = some (r1, r2)) ∧ Aside0 (kq ≤ kj4) ∧ Aside0 (Below w.heap.size w wc))
                  case first =>
                    have H := HC17.out
                    clear HC17
                    by_cases c19 : t121 = 0
                    · rw [if_pos c19] at H
                      have c19b0 : (t121 == 0) = true := beq_iff_eq.mpr c19
                      have c19b1 : (t121 != 0) = false := bne_eq_false_iff_eq.mpr c19
                      clear c19
                      (first | rw [c19b0] | (simp only [i64_w, i32_w]; rw [c19b0]) | skip)
                      have H' := Aside0.mk H
                      clear H
                      go_wp2
                      repeat (go_quiet (fail); try go_wp2)
                      go_meet
                      case rel => exact ⟨_, ((t120 != (wrap64 ((wrap64 (a1 + a2)) - t118)))), (by first | rfl | (simp; done) | (simp [*]; done)), H', ⟨by have := HJ4.out; first | omega | exact Nat.le_refl _⟩, ⟨by repeat (first | (with_reducible first | exact HB.out | apply below_alloc | apply pw_below_drewN | apply below_drew1) | exact HB.out)⟩⟩
                    · rw [if_neg c19] at H
                      have c19b0 : (t121 == 0) = false := beq_eq_false_iff_ne.mpr c19
                      have c19b1 : (t121 != 0) = true := bne_iff_ne.mpr c19
                      (first | rw [c19b0] | (simp only [i64_w, i32_w]; rw [c19b0]) | skip)
                      have H' := Aside0.mk H
                      clear H
                      go_wp2
                      repeat (go_quiet (fail); try go_wp2)
                      go_meet
                      case rel => exact ⟨_, (true), (by first | rfl | (simp; done) | (simp [*]; done)), H', ⟨by have := HJ4.out; first | omega | exact Nat.le_refl _⟩, ⟨by repeat (first | (with_reducible first | exact HB.out | apply below_alloc | apply pw_below_drewN | apply below_drew1) | exact HB.out)⟩⟩
                  case rest =>
                    clear HC17
                    try clear c1
                    try clear p2
                    try clear c6
                    try clear c6b0
                    try clear p6
                    try clear c7
                    try clear c7b0
                    try clear c8
                    try clear c8b0
                    try clear c9
                    try clear c10
                    try clear c10b0
                    try clear c10b1
                    try clear c11
                    try clear c11b0
                    try clear c11b1
                    try clear c12
                    try clear c12b0
                    try clear c12b1
                    try clear c14
                    try clear c14b0
                    try clear c15
                    try clear c15b0
                    try clear c19
                    try clear c19b0
                    try clear c19b1
                    try clear p2
                    try clear p6
                    obtain ⟨kq, x76_16, rfl, HA, HJ16, HB⟩ := hcut
                    cases kq with
                    | zero => exact absurd HA.out (by simp [comp_Data.j1])
                    | succ kj16 =>
                      have H := HA.out
                      clear HA
                      simp only [comp_Data.j1] at H
                      by_cases c20 : x76_16 = true
                      · subst c20
                        have H1 : (some ((⟨#[]⟩ : ByteArray), 500)) = some (r1, r2) := by rw [if_pos rfl] at H; exact H
                        clear H
                        have H := H1
                        clear H1
                        simp only [Option.some.injEq, Prod.mk.injEq] at H
                        obtain ⟨rfl, rfl⟩ := H
                        go_wp2
                        repeat (go_quiet (fail); try go_wp2)
                        go_ret2
                        exact ⟨by first | rfl | (simp [errW_none, errW_some] <;> rfl) | (simp [*, errW_none, errW_some] <;> rfl), by repeat (first | (with_reducible first | exact HB.out | apply below_alloc | apply pw_below_drewN | apply below_drew1) | exact HB.out)⟩
                      · replace c20 := Bool.eq_false_iff.mpr c20
                        subst c20
                        have H1 : (if 0 ≤ a1 then (if a1 ≤ (wrap64 (a1 + t116)) then (if (wrap64 (a1 + t116)) ≤ (a0.size : Int) then (if (a0.extract (a1 : Int).toNat ((wrap64 (a1 + t116)) : Int).toNat).size + t119.size ≤ 9223372036854775807 then (if 0 ≤ t120 then (if t120 ≤ (wrap64 (a1 + a2)) then (if (wrap64 (a1 + a2)) ≤ (a0.size : Int) then (if ((a0.extract (a1 : Int).toNat ((wrap64 (a1 + t116)) : Int).toNat) ++ t119).size + (a0.extract (t120 : Int).toNat ((wrap64 (a1 + a2)) : Int).toNat).size ≤ 9223372036854775807 then ((rdata_May.f a3 (((a0.extract (a1 : Int).toNat ((wrap64 (a1 + t116)) : Int).toNat) ++ t119) ++ (a0.extract (t120 : Int).toNat ((wrap64 (a1 + a2)) : Int).toNat))).bind fun t122 => (if t122 = true then (some (((a0.extract (a1 : Int).toNat ((wrap64 (a1 + t116)) : Int).toNat) ++ t119) ++ (a0.extract (t120 : Int).toNat ((wrap64 (a1 + a2)) : Int).toNat), 0)) else (some ((⟨#[]⟩ : ByteArray), 500)))) else (none)) else (none)) else (none)) else (none)) else (none)) else (none)) else (none)) else (none)) = some (r1, r2) := by rw [if_neg (show ¬ (false = true) by decide)] at H; exact H
                        clear H
                        have H := H1
                        clear H1
                        by_cases c21 : 0 ≤ a1
                        · rw [if_pos c21] at H
                          have c21b0 := eq_true c21
                          have c21b1 : decide (0 ≤ a1) = true := decide_eq_true c21
                          clear c21
                          by_cases c22 : a1 ≤ (wrap64 (a1 + t116))
                          · rw [if_pos c22] at H
                            have c22b0 := eq_true c22
                            have c22b1 : decide (a1 ≤ (wrap64 (a1 + t116))) = true := decide_eq_true c22
                            by_cases c23 : (wrap64 (a1 + t116)) ≤ (a0.size : Int)
                            · rw [if_pos c23] at H
                              have c23b0 := eq_true c23
                              have c23b1 : decide ((wrap64 (a1 + t116)) ≤ (a0.size : Int)) = true := decide_eq_true c23
                              by_cases c24 : (a0.extract (a1 : Int).toNat ((wrap64 (a1 + t116)) : Int).toNat).size + t119.size ≤ 9223372036854775807
                              · rw [if_pos c24] at H
                                have c24b0 := eq_true c24
                                have c24b1 : decide ((a0.extract (a1 : Int).toNat ((wrap64 (a1 + t116)) : Int).toNat).size + t119.size ≤ 9223372036854775807) = true := decide_eq_true c24
                                try have c24b2 : (9223372036854775807 < (a0.extract (a1 : Int).toNat ((wrap64 (a1 + t116)) : Int).toNat).size + t119.size) = False := eq_false (Nat.not_lt.2 c24)
                                by_cases c25 : 0 ≤ t120
                                · rw [if_pos c25] at H
                                  have c25b0 := eq_true c25
                                  have c25b1 : decide (0 ≤ t120) = true := decide_eq_true c25
                                  clear c25
                                  by_cases c26 : t120 ≤ (wrap64 (a1 + a2))
                                  · rw [if_pos c26] at H
                                    have c26b0 := eq_true c26
                                    have c26b1 : decide (t120 ≤ (wrap64 (a1 + a2))) = true := decide_eq_true c26
                                    by_cases c27 : (wrap64 (a1 + a2)) ≤ (a0.size : Int)
                                    · rw [if_pos c27] at H
                                      have c27b0 := eq_true c27
                                      have c27b1 : decide ((wrap64 (a1 + a2)) ≤ (a0.size : Int)) = true := decide_eq_true c27
                                      by_cases c28 : ((a0.extract (a1 : Int).toNat ((wrap64 (a1 + t116)) : Int).toNat) ++ t119).size + (a0.extract (t120 : Int).toNat ((wrap64 (a1 + a2)) : Int).toNat).size ≤ 9223372036854775807
                                      · rw [if_pos c28] at H
                                        have c28b0 := eq_true c28
                                        have c28b1 : decide (((a0.extract (a1 : Int).toNat ((wrap64 (a1 + t116)) : Int).toNat) ++ t119).size + (a0.extract (t120 : Int).toNat ((wrap64 (a1 + a2)) : Int).toNat).size ≤ 9223372036854775807) = true := decide_eq_true c28
                                        try have c28b2 : (9223372036854775807 < ((a0.extract (a1 : Int).toNat ((wrap64 (a1 + t116)) : Int).toNat) ++ t119).size + (a0.extract (t120 : Int).toNat ((wrap64 (a1 + a2)) : Int).toNat).size) = False := eq_false (Nat.not_lt.2 c28)
                                        try (have c28b3 := c28; simp only [ByteArray.size_append] at c28b3; replace c28b3 := eq_false (Nat.not_lt.2 c28b3))
                                        replace H := Option.bind_eq_some_iff.mp H
                                        obtain ⟨t122, A290, H⟩ := H
                                        replace H : (if t122 = true then (some (((a0.extract (a1 : Int).toNat ((wrap64 (a1 + t116)) : Int).toNat) ++ t119) ++ (a0.extract (t120 : Int).toNat ((wrap64 (a1 + a2)) : Int).toNat), 0)) else (some ((⟨#[]⟩ : ByteArray), 500))) = some (r1, r2) := H
                                        have A29 := Aside0.mk A290
                                        clear A290
                                        by_cases c30 : t122 = true
                                        · subst c30
                                          have H1 : (some (((a0.extract (a1 : Int).toNat ((wrap64 (a1 + t116)) : Int).toNat) ++ t119) ++ (a0.extract (t120 : Int).toNat ((wrap64 (a1 + a2)) : Int).toNat), 0)) = some (r1, r2) := by rw [if_pos rfl] at H; exact H
                                          clear H
                                          have H := H1
                                          clear H1
                                          simp only [Option.some.injEq, Prod.mk.injEq] at H
                                          obtain ⟨rfl, rfl⟩ := H
                                          go_wp2_with (first | (go_at_call 102; (with_reducible refine (rdata_May.calls a3 (((a0.extract (a1 : Int).toNat ((wrap64 (a1 + t116)) : Int).toNat) ++ t119) ++ (a0.extract (t120 : Int).toNat ((wrap64 (a1 + a2)) : Int).toNat)) true _ A29.out).mono ?_); rintro e w31 ⟨rfl, hb⟩; have n0_ := Aside0.mk (below_step (by repeat (first | (with_reducible first | exact HB.out | apply below_alloc | apply pw_below_drewN | apply below_drew1) | exact HB.out)) hb); clear HB; have HB := n0_; clear n0_; (try clear hb); (try clear hb2); (try clear hk); (try clear hi)))
                                          repeat (go_quiet (first | (go_at_call 102; (with_reducible refine (rdata_May.calls a3 (((a0.extract (a1 : Int).toNat ((wrap64 (a1 + t116)) : Int).toNat) ++ t119) ++ (a0.extract (t120 : Int).toNat ((wrap64 (a1 + a2)) : Int).toNat)) true _ A29.out).mono ?_); rintro e w31 ⟨rfl, hb⟩; have n0_ := Aside0.mk (below_step (by repeat (first | (with_reducible first | exact HB.out | apply below_alloc | apply pw_below_drewN | apply below_drew1) | exact HB.out)) hb); clear HB; have HB := n0_; clear n0_; (try clear hb); (try clear hb2); (try clear hk); (try clear hi))); try go_wp2_with (first | (go_at_call 102; (with_reducible refine (rdata_May.calls a3 (((a0.extract (a1 : Int).toNat ((wrap64 (a1 + t116)) : Int).toNat) ++ t119) ++ (a0.extract (t120 : Int).toNat ((wrap64 (a1 + a2)) : Int).toNat)) true _ A29.out).mono ?_); rintro e w31 ⟨rfl, hb⟩; have n0_ := Aside0.mk (below_step (by repeat (first | (with_reducible first | exact HB.out | apply below_alloc | apply pw_below_drewN | apply below_drew1) | exact HB.out)) hb); clear HB; have HB := n0_; clear n0_; (try clear hb); (try clear hb2); (try clear hk); (try clear hi))))
                                          go_ret2
                                          exact ⟨by first | rfl | (simp [errW_none, errW_some] <;> rfl) | (simp [*, errW_none, errW_some] <;> rfl), by repeat (first | (with_reducible first | exact HB.out | apply below_alloc | apply pw_below_drewN | apply below_drew1) | exact HB.out)⟩
                                        · replace c30 := Bool.eq_false_iff.mpr c30
                                          subst c30
                                          have H1 : (some ((⟨#[]⟩ : ByteArray), 500)) = some (r1, r2) := by rw [if_neg (show ¬ (false = true) by decide)] at H; exact H
                                          clear H
                                          have H := H1
                                          clear H1
                                          simp only [Option.some.injEq, Prod.mk.injEq] at H
                                          obtain ⟨rfl, rfl⟩ := H
                                          go_wp2_with (first | (go_at_call 102; (with_reducible refine (rdata_May.calls a3 (((a0.extract (a1 : Int).toNat ((wrap64 (a1 + t116)) : Int).toNat) ++ t119) ++ (a0.extract (t120 : Int).toNat ((wrap64 (a1 + a2)) : Int).toNat)) false _ A29.out).mono ?_); rintro e w32 ⟨rfl, hb⟩; have n0_ := Aside0.mk (below_step (by repeat (first | (with_reducible first | exact HB.out | apply below_alloc | apply pw_below_drewN | apply below_drew1) | exact HB.out)) hb); clear HB; have HB := n0_; clear n0_; (try clear hb); (try clear hb2); (try clear hk); (try clear hi)))
                                          repeat (go_quiet (first | (go_at_call 102; (with_reducible refine (rdata_May.calls a3 (((a0.extract (a1 : Int).toNat ((wrap64 (a1 + t116)) : Int).toNat) ++ t119) ++ (a0.extract (t120 : Int).toNat ((wrap64 (a1 + a2)) : Int).toNat)) false _ A29.out).mono ?_); rintro e w32 ⟨rfl, hb⟩; have n0_ := Aside0.mk (below_step (by repeat (first | (with_reducible first | exact HB.out | apply below_alloc | apply pw_below_drewN | apply below_drew1) | exact HB.out)) hb); clear HB; have HB := n0_; clear n0_; (try clear hb); (try clear hb2); (try clear hk); (try clear hi))); try go_wp2_with (first | (go_at_call 102; (with_reducible refine (rdata_May.calls a3 (((a0.extract (a1 : Int).toNat ((wrap64 (a1 + t116)) : Int).toNat) ++ t119) ++ (a0.extract (t120 : Int).toNat ((wrap64 (a1 + a2)) : Int).toNat)) false _ A29.out).mono ?_); rintro e w32 ⟨rfl, hb⟩; have n0_ := Aside0.mk (below_step (by repeat (first | (with_reducible first | exact HB.out | apply below_alloc | apply pw_below_drewN | apply below_drew1) | exact HB.out)) hb); clear HB; have HB := n0_; clear n0_; (try clear hb); (try clear hb2); (try clear hk); (try clear hi))))
                                          go_ret2
                                          exact ⟨by first | rfl | (simp [errW_none, errW_some] <;> rfl) | (simp [*, errW_none, errW_some] <;> rfl), by repeat (first | (with_reducible first | exact HB.out | apply below_alloc | apply pw_below_drewN | apply below_drew1) | exact HB.out)⟩
                                      · rw [if_neg c28] at H
                                        exact absurd H (by simp)
                                    · rw [if_neg c27] at H
                                      exact absurd H (by simp)
                                  · rw [if_neg c26] at H
                                    exact absurd H (by simp)
                                · rw [if_neg c25] at H
                                  exact absurd H (by simp)
                              · rw [if_neg c24] at H
                                exact absurd H (by simp)
                            · rw [if_neg c23] at H
                              exact absurd H (by simp)
                          · rw [if_neg c22] at H
                            exact absurd H (by simp)
                        · rw [if_neg c21] at H
                          exact absurd H (by simp)
              · rw [if_neg c14] at H
                have c14b0 : decide (0 < t117) = false := decide_eq_false c14
                clear c14
                replace H := Option.bind_eq_some_iff.mp H
                obtain ⟨t123, A330, H⟩ := H
                replace H : (if t123 = true then (some (a0.extract (a1 : Int).toNat ((wrap64 (a1 + a2)) : Int).toNat, 0)) else (some ((⟨#[]⟩ : ByteArray), 500))) = some (r1, r2) := H
                have A33 := Aside0.mk A330
                clear A330
                by_cases c34 : t123 = true
                · subst c34
                  have H1 : (some (a0.extract (a1 : Int).toNat ((wrap64 (a1 + a2)) : Int).toNat, 0)) = some (r1, r2) := by rw [if_pos rfl] at H; exact H
                  clear H
                  have H := H1
                  clear H1
                  simp only [Option.some.injEq, Prod.mk.injEq] at H
                  obtain ⟨rfl, rfl⟩ := H
                  go_wp2_with (first | (go_at_call 104; (with_reducible refine (comp_shape.calls kj4 a3 t116 t117 t118 _ A13.out).mono ?_); rintro e w' ⟨rfl, ⟨nd, rfl⟩⟩; (try first | exact ⟨rfl, _, World.drewN_drewN _ _ _⟩ | exact ⟨rfl, _, Eq.trans (World.drewN_drewN _ _ _) (congrArg (World.drewN _) (Nat.add_assoc _ _ _))⟩)) | (go_at_call 102; (with_reducible refine (rdata_May.calls a3 (a0.extract (a1 : Int).toNat ((wrap64 (a1 + a2)) : Int).toNat) true _ A33.out).mono ?_); rintro e w35 ⟨rfl, hb⟩; have n0_ := Aside0.mk (below_step (by repeat (first | (with_reducible first | exact HB.out | apply below_alloc | apply pw_below_drewN | apply below_drew1) | exact HB.out)) hb); clear HB; have HB := n0_; clear n0_; (try clear hb); (try clear hb2); (try clear hk); (try clear hi)))
                  repeat (go_quiet (first | (go_at_call 104; (with_reducible refine (comp_shape.calls kj4 a3 t116 t117 t118 _ A13.out).mono ?_); rintro e w' ⟨rfl, ⟨nd, rfl⟩⟩; (try first | exact ⟨rfl, _, World.drewN_drewN _ _ _⟩ | exact ⟨rfl, _, Eq.trans (World.drewN_drewN _ _ _) (congrArg (World.drewN _) (Nat.add_assoc _ _ _))⟩)) | (go_at_call 102; (with_reducible refine (rdata_May.calls a3 (a0.extract (a1 : Int).toNat ((wrap64 (a1 + a2)) : Int).toNat) true _ A33.out).mono ?_); rintro e w35 ⟨rfl, hb⟩; have n0_ := Aside0.mk (below_step (by repeat (first | (with_reducible first | exact HB.out | apply below_alloc | apply pw_below_drewN | apply below_drew1) | exact HB.out)) hb); clear HB; have HB := n0_; clear n0_; (try clear hb); (try clear hb2); (try clear hk); (try clear hi))); try go_wp2_with (first | (go_at_call 104; (with_reducible refine (comp_shape.calls kj4 a3 t116 t117 t118 _ A13.out).mono ?_); rintro e w' ⟨rfl, ⟨nd, rfl⟩⟩; (try first | exact ⟨rfl, _, World.drewN_drewN _ _ _⟩ | exact ⟨rfl, _, Eq.trans (World.drewN_drewN _ _ _) (congrArg (World.drewN _) (Nat.add_assoc _ _ _))⟩)) | (go_at_call 102; (with_reducible refine (rdata_May.calls a3 (a0.extract (a1 : Int).toNat ((wrap64 (a1 + a2)) : Int).toNat) true _ A33.out).mono ?_); rintro e w35 ⟨rfl, hb⟩; have n0_ := Aside0.mk (below_step (by repeat (first | (with_reducible first | exact HB.out | apply below_alloc | apply pw_below_drewN | apply below_drew1) | exact HB.out)) hb); clear HB; have HB := n0_; clear n0_; (try clear hb); (try clear hb2); (try clear hk); (try clear hi))))
                  go_ret2
                  exact ⟨by first | rfl | (simp [errW_none, errW_some] <;> rfl) | (simp [*, errW_none, errW_some] <;> rfl), by repeat (first | (with_reducible first | exact HB.out | apply below_alloc | apply pw_below_drewN | apply below_drew1) | exact HB.out)⟩
                · replace c34 := Bool.eq_false_iff.mpr c34
                  subst c34
                  have H1 : (some ((⟨#[]⟩ : ByteArray), 500)) = some (r1, r2) := by rw [if_neg (show ¬ (false = true) by decide)] at H; exact H
                  clear H
                  have H := H1
                  clear H1
                  simp only [Option.some.injEq, Prod.mk.injEq] at H
                  obtain ⟨rfl, rfl⟩ := H
                  go_wp2_with (first | (go_at_call 104; (with_reducible refine (comp_shape.calls kj4 a3 t116 t117 t118 _ A13.out).mono ?_); rintro e w' ⟨rfl, ⟨nd, rfl⟩⟩; (try first | exact ⟨rfl, _, World.drewN_drewN _ _ _⟩ | exact ⟨rfl, _, Eq.trans (World.drewN_drewN _ _ _) (congrArg (World.drewN _) (Nat.add_assoc _ _ _))⟩)) | (go_at_call 102; (with_reducible refine (rdata_May.calls a3 (a0.extract (a1 : Int).toNat ((wrap64 (a1 + a2)) : Int).toNat) false _ A33.out).mono ?_); rintro e w36 ⟨rfl, hb⟩; have n0_ := Aside0.mk (below_step (by repeat (first | (with_reducible first | exact HB.out | apply below_alloc | apply pw_below_drewN | apply below_drew1) | exact HB.out)) hb); clear HB; have HB := n0_; clear n0_; (try clear hb); (try clear hb2); (try clear hk); (try clear hi)))
                  repeat (go_quiet (first | (go_at_call 104; (with_reducible refine (comp_shape.calls kj4 a3 t116 t117 t118 _ A13.out).mono ?_); rintro e w' ⟨rfl, ⟨nd, rfl⟩⟩; (try first | exact ⟨rfl, _, World.drewN_drewN _ _ _⟩ | exact ⟨rfl, _, Eq.trans (World.drewN_drewN _ _ _) (congrArg (World.drewN _) (Nat.add_assoc _ _ _))⟩)) | (go_at_call 102; (with_reducible refine (rdata_May.calls a3 (a0.extract (a1 : Int).toNat ((wrap64 (a1 + a2)) : Int).toNat) false _ A33.out).mono ?_); rintro e w36 ⟨rfl, hb⟩; have n0_ := Aside0.mk (below_step (by repeat (first | (with_reducible first | exact HB.out | apply below_alloc | apply pw_below_drewN | apply below_drew1) | exact HB.out)) hb); clear HB; have HB := n0_; clear n0_; (try clear hb); (try clear hb2); (try clear hk); (try clear hi))); try go_wp2_with (first | (go_at_call 104; (with_reducible refine (comp_shape.calls kj4 a3 t116 t117 t118 _ A13.out).mono ?_); rintro e w' ⟨rfl, ⟨nd, rfl⟩⟩; (try first | exact ⟨rfl, _, World.drewN_drewN _ _ _⟩ | exact ⟨rfl, _, Eq.trans (World.drewN_drewN _ _ _) (congrArg (World.drewN _) (Nat.add_assoc _ _ _))⟩)) | (go_at_call 102; (with_reducible refine (rdata_May.calls a3 (a0.extract (a1 : Int).toNat ((wrap64 (a1 + a2)) : Int).toNat) false _ A33.out).mono ?_); rintro e w36 ⟨rfl, hb⟩; have n0_ := Aside0.mk (below_step (by repeat (first | (with_reducible first | exact HB.out | apply below_alloc | apply pw_below_drewN | apply below_drew1) | exact HB.out)) hb); clear HB; have HB := n0_; clear n0_; (try clear hb); (try clear hb2); (try clear hk); (try clear hi))))
                  go_ret2
                  exact ⟨by first | rfl | (simp [errW_none, errW_some] <;> rfl) | (simp [*, errW_none, errW_some] <;> rfl), by repeat (first | (with_reducible first | exact HB.out | apply below_alloc | apply pw_below_drewN | apply below_drew1) | exact HB.out)⟩
            · rw [if_neg c12] at H
              exact absurd H (by simp)
          · rw [if_neg c11] at H
            exact absurd H (by simp)
        · rw [if_neg c10] at H
          exact absurd H (by simp)

end Go.Proofs.Ytjklgdpffmaamaa.PCm

namespace Go.Proofs.Ytjklgdpffmaamaa.Wm
open Go.RowKit Go.PlainAid Go.Maps Go.Proofs.Ytjklgdpffmaamaa.Base Go.Proofs.Ytjklgdpffmaamaa.Oct Go.Proofs.Ytjklgdpffmaamaa.Nm
open Go.Proofs.YtjklgdpffmaamaaW.PrintWords (blk_cell blk_below blk_put blk_frozen blk_ne blk_new blk_lt blk_grown LeO)
set_option linter.unusedVariables false
/-- Where the reader stands, whether something was bad. -/
structure Rs where
  at_ : Int
  bad : Bool
def u16V (s : ByteArray) (i : Int) : Int × Int × Int := if 0 ≤ i ∧ i + 2 ≤ s.size then (be2 s i.toNat, i + 2, 0) else (0, 0, 300)
def u32V (s : ByteArray) (i : Int) : Int × Int × Int := if 0 ≤ i ∧ i + 4 ≤ s.size then (be4 s i.toNat, i + 4, 0) else (0, 0, 300)
def numV (r : Rs) (x : Int × Int × Int) : Int × Rs := if r.bad || x.2.2 != 0 then (0, ⟨r.at_, true⟩) else (x.1, ⟨x.2.1, false⟩)
structure RdAt (w : World) (g : Nat) (s : ByteArray) (r : Rs) : Prop where
  blk : w.heap[g]? = some (.cells #[.string s, .int .i64 r.at_, .bool r.bad] 120 (0, 0))
section
variable {w w1 w' : World} {g : Nat} {s : ByteArray} {r : Rs}
theorem RdAt.below (h : RdAt w g s r) (hb : Below w.heap.size w w') : RdAt w' g s r := ⟨blk_below h.blk hb⟩
theorem grown_below (hb : Below w.heap.size w w') (row : Option Nat) : w.grownBy w' row := ⟨hb.os, hb.tape, hb.output, hb.size, fun k hk _ => hb.block k hk⟩
theorem grown_set (w : World) (g i : Nat) (v : Value) : w.grownBy (w.setCell ⟨g, i, none⟩ v) (some g) := ⟨rfl, rfl, rfl, by simp [World.setCell], fun k hk h => Below.heap_setCell w _ _ k (by rintro rfl; exact h rfl)⟩
theorem grown_far {w W : World} {row : Option Nat} (h : w.grownBy W row) {p : Addr} (hp : w.heap.size ≤ p.block) (v : Value) : w.grownBy (W.setCell p v) row :=
  ⟨h.os, h.tape, h.output, by simpa [World.setCell] using h.size, fun k hk hne => (Below.heap_setCell W p v k (by omega)).trans (h.block k hk hne)⟩
theorem grown_set' {w W : World} {g : Nat} (h : w.grownBy W (some g)) (i : Nat) (v : Value) : w.grownBy (W.setCell ⟨g, i, none⟩ v) (some g) := h.trans (grown_set W g i v)
theorem grown_alloc' {w W : World} {row : Option Nat} (h : w.grownBy W row) (o : Obj) : w.grownBy (W.alloc o) row := h.trans (World.grownBy_alloc W _ _)
theorem blk_set_ne {w : World} {g : Nat} {o : Obj} {p : Addr} (h : w.heap[g]? = some o) (hne : g ≠ p.block) (v : Value) : (w.setCell p v).heap[g]? = some o := (Below.heap_setCell w p v g hne).trans h
theorem u16c (s : ByteArray) (i : Int) (w : World) (hs : s.size ≤ 9223372036854775000) : Calls Try.prog 92 #[.string s, .int .i64 i] w fun e w' => e = .returned (.tuple #[.int .i64 (u16V s i).1, .int .i64 (u16V s i).2.1, .int .i64 (u16V s i).2.2]) ∧ w = w' := by
  unfold u16V
  by_cases h : 0 ≤ i ∧ i + 2 ≤ s.size
  · rw [if_pos h]; exact u16z s i w hs h.1 h.2
  · rw [if_neg h]; exact u16n s i w hs h
theorem u32c (s : ByteArray) (i : Int) (w : World) (hs : s.size ≤ 9223372036854775000) : Calls Try.prog 96 #[.string s, .int .i64 i] w fun e w' => e = .returned (.tuple #[.int .i64 (u32V s i).1, .int .i64 (u32V s i).2.1, .int .i64 (u32V s i).2.2]) ∧ w = w' := by
  unfold u32V
  by_cases h : 0 ≤ i ∧ i + 4 ≤ s.size
  · rw [if_pos h]; exact u32z s i w hs h.1 h.2
  · rw [if_neg h]; exact u32n s i w hs h
set_option maxHeartbeats 2000000 in
set_option maxRecDepth 100000 in
theorem num16 (H : RdAt w g s r) (hs : s.size ≤ 4096) : Calls Try.prog 95 #[.pointer (some ⟨g, 0, none⟩), .func (.func 92) #[] #[]] w fun e w' => e = .returned (.int .i64 (numV r (u16V s r.at_)).1) ∧ RdAt w' g s (numV r (u16V s r.at_)).2 ∧ w.grownBy w' (some g) := by
  have c0 : w.cell? ⟨g, 0, none⟩ = some (.string s) := (blk_cell H.blk 0).trans rfl
  have c1 : w.cell? ⟨g, 1, none⟩ = some (.int .i64 r.at_) := (blk_cell H.blk 1).trans rfl
  have kc := fun w => Hd.same_below (u16c s r.at_ w (by omega))
  have hblk := H.blk
  obtain ⟨ra, rb⟩ := r
  dsimp only at c1 kc hblk ⊢
  obtain ⟨Vv, hV⟩ : ∃ V, u16V s ra = V := ⟨_, rfl⟩
  simp only [hV] at kc ⊢
  clear hV
  obtain ⟨x, a, e⟩ := Vv
  dsimp only [numV] at kc ⊢
  have r0 := cell_regrown c0
  have r1 := cell_regrown c1
  have fin : ∀ (W : World) (b : Bool), W.heap[g]? = some (.cells #[.string s, .int .i64 ra, .bool rb] 120 (0, 0)) → (W.setCell ⟨g, 2, none⟩ (.bool b)).heap[g]? = some (.cells #[.string s, .int .i64 ra, .bool b] 120 (0, 0)) ∧ ((W.setCell ⟨g, 2, none⟩ (.bool b)).setCell ⟨g, 1, none⟩ (.int .i64 a)).heap[g]? = some (.cells #[.string s, .int .i64 a, .bool b] 120 (0, 0)) :=
    fun W b h => ⟨blk_put h 2 _ rfl, blk_put (blk_put h 2 (.bool b) rfl) 1 _ rfl⟩
  have FIN := Lib.hid fin
  clear fin
  go_enter Try.func95, Try.ntmps95
  go_upto_region 1 with (fail)
  refine wp_region_quiet_below (by kernel_rfl) (by kernel_rfl) ?_
  repeat (go_big_quiet_step (exact Calls.regrown_of (kc _)))
  refine wpQuiet_nil ?_
  intro _ hw'
  obtain ⟨⟨dq, osq⟩, hw''⟩ := hw'
  subst hw''
  have B1 := below_regrown w dq osq
  generalize Go.Sort.grow (redrawn w dq) osq = w1 at B1 ⊢
  have b1 := blk_below hblk B1
  have d2 : w1.cell? ⟨g, 2, none⟩ = some (.bool rb) := (blk_cell b1 2).trans rfl
  have d1 : w1.cell? ⟨g, 1, none⟩ = some (.int .i64 ra) := (blk_cell b1 1).trans rfl
  have f2 := blk_frozen b1 2
  have f1 := blk_frozen b1 1
  have G1 := grown_below B1 (some g)
  clear kc
  cases rb with
  | true =>
    go_wp2
    go_ret
    exact ⟨rfl, ⟨(FIN.out w1 true b1).1⟩, G1.trans (grown_set _ _ _ _)⟩
  | false =>
    by_cases he : e = 0
    · subst he
      have q : ((0 : Int) != 0) = false := by decide
      go_wp2
      go_ret
      exact ⟨rfl, ⟨(FIN.out w1 false b1).2⟩, (G1.trans (grown_set _ _ _ _)).trans (grown_set _ _ _ _)⟩
    · have q : (e == 0) = false := by simp [he]
      have q2 : (e != 0) = true := by simp [he]
      go_wp2
      go_ret
      exact ⟨rfl, ⟨(FIN.out w1 true b1).1⟩, G1.trans (grown_set _ _ _ _)⟩
set_option maxHeartbeats 2000000 in
set_option maxRecDepth 100000 in
theorem num32 (H : RdAt w g s r) (hs : s.size ≤ 4096) : Calls Try.prog 95 #[.pointer (some ⟨g, 0, none⟩), .func (.func 96) #[] #[]] w fun e w' => e = .returned (.int .i64 (numV r (u32V s r.at_)).1) ∧ RdAt w' g s (numV r (u32V s r.at_)).2 ∧ w.grownBy w' (some g) := by
  have c0 : w.cell? ⟨g, 0, none⟩ = some (.string s) := (blk_cell H.blk 0).trans rfl
  have c1 : w.cell? ⟨g, 1, none⟩ = some (.int .i64 r.at_) := (blk_cell H.blk 1).trans rfl
  have kc := fun w => Hd.same_below (u32c s r.at_ w (by omega))
  have hblk := H.blk
  obtain ⟨ra, rb⟩ := r
  dsimp only at c1 kc hblk ⊢
  obtain ⟨Vv, hV⟩ : ∃ V, u32V s ra = V := ⟨_, rfl⟩
  simp only [hV] at kc ⊢
  clear hV
  obtain ⟨x, a, e⟩ := Vv
  dsimp only [numV] at kc ⊢
  have r0 := cell_regrown c0
  have r1 := cell_regrown c1
  have fin : ∀ (W : World) (b : Bool), W.heap[g]? = some (.cells #[.string s, .int .i64 ra, .bool rb] 120 (0, 0)) → (W.setCell ⟨g, 2, none⟩ (.bool b)).heap[g]? = some (.cells #[.string s, .int .i64 ra, .bool b] 120 (0, 0)) ∧ ((W.setCell ⟨g, 2, none⟩ (.bool b)).setCell ⟨g, 1, none⟩ (.int .i64 a)).heap[g]? = some (.cells #[.string s, .int .i64 a, .bool b] 120 (0, 0)) :=
    fun W b h => ⟨blk_put h 2 _ rfl, blk_put (blk_put h 2 (.bool b) rfl) 1 _ rfl⟩
  have FIN := Lib.hid fin
  clear fin
  go_enter Try.func95, Try.ntmps95
  go_upto_region 1 with (fail)
  refine wp_region_quiet_below (by kernel_rfl) (by kernel_rfl) ?_
  repeat (go_big_quiet_step (exact Calls.regrown_of (kc _)))
  refine wpQuiet_nil ?_
  intro _ hw'
  obtain ⟨⟨dq, osq⟩, hw''⟩ := hw'
  subst hw''
  have B1 := below_regrown w dq osq
  generalize Go.Sort.grow (redrawn w dq) osq = w1 at B1 ⊢
  have b1 := blk_below hblk B1
  have d2 : w1.cell? ⟨g, 2, none⟩ = some (.bool rb) := (blk_cell b1 2).trans rfl
  have d1 : w1.cell? ⟨g, 1, none⟩ = some (.int .i64 ra) := (blk_cell b1 1).trans rfl
  have f2 := blk_frozen b1 2
  have f1 := blk_frozen b1 1
  have G1 := grown_below B1 (some g)
  clear kc
  cases rb with
  | true =>
    go_wp2
    go_ret
    exact ⟨rfl, ⟨(FIN.out w1 true b1).1⟩, G1.trans (grown_set _ _ _ _)⟩
  | false =>
    by_cases he : e = 0
    · subst he
      have q : ((0 : Int) != 0) = false := by decide
      go_wp2
      go_ret
      exact ⟨rfl, ⟨(FIN.out w1 false b1).2⟩, (G1.trans (grown_set _ _ _ _)).trans (grown_set _ _ _ _)⟩
    · have q : (e == 0) = false := by simp [he]
      have q2 : (e != 0) = true := by simp [he]
      go_wp2
      go_ret
      exact ⟨rfl, ⟨(FIN.out w1 true b1).1⟩, G1.trans (grown_set _ _ _ _)⟩
end
/-- A question that is read. -/
def questV (k : Nat) (s : ByteArray) (r : Rs) : Option (Qn × Rs) :=
  (PCm.comp_Name.f k s r.at_).bind fun x => if r.bad || x.2.2 != 0 then some (zQ, ⟨r.at_, true⟩) else
    some (⟨x.1, (numV ⟨x.2.1, false⟩ (u16V s x.2.1)).1, (numV (numV ⟨x.2.1, false⟩ (u16V s x.2.1)).2 (u16V s (numV ⟨x.2.1, false⟩ (u16V s x.2.1)).2.at_)).1⟩,
      ⟨(numV (numV ⟨x.2.1, false⟩ (u16V s x.2.1)).2 (u16V s (numV ⟨x.2.1, false⟩ (u16V s x.2.1)).2.at_)).2.at_, (numV (numV ⟨x.2.1, false⟩ (u16V s x.2.1)).2 (u16V s (numV ⟨x.2.1, false⟩ (u16V s x.2.1)).2.at_)).2.bad || (numV ⟨x.2.1, false⟩ (u16V s x.2.1)).1 == 0⟩)
section
variable {w w1 w' : World} {g : Nat} {s : ByteArray} {r : Rs}
set_option maxHeartbeats 4000000 in
set_option maxRecDepth 100000 in
theorem questc (H : RdAt w g s r) (hs : s.size ≤ 4096) {k : Nat} {q : Qn} {r' : Rs} (hq : questV k s r = some (q, r')) : Calls Try.prog 66 #[.pointer (some ⟨g, 0, none⟩)] w fun e w' => e = .returned (.agg #[.string q.name, .int .i64 q.type, .int .i64 q.cls]) ∧ RdAt w' g s r' ∧ w.grownBy w' (some g) := by
  have hglt := blk_lt H.blk
  unfold questV at hq
  obtain ⟨x, hx, hq⟩ := Option.bind_eq_some_iff.1 hq
  have kc := fun w => PCm.comp_Name.calls k s r.at_ x.1 x.2.1 x.2.2 w hx
  obtain ⟨n, a, e⟩ := x
  obtain ⟨ra, rb⟩ := r
  dsimp only at kc hq
  have Ba : Below w.heap.size w (w.alloc (.cells #[.string ⟨#[]⟩, .int .i64 0, .int .i64 0] 40)) := (Below.refl _ _).alloc (Nat.le_refl _) _
  have Ha := H.below Ba
  have c0 : (w.alloc (.cells #[.string ⟨#[]⟩, .int .i64 0, .int .i64 0] 40)).cell? ⟨g, 0, none⟩ = some (.string s) := (blk_cell Ha.blk 0).trans rfl
  have c1 : (w.alloc (.cells #[.string ⟨#[]⟩, .int .i64 0, .int .i64 0] 40)).cell? ⟨g, 1, none⟩ = some (.int .i64 ra) := (blk_cell Ha.blk 1).trans rfl
  have r0 := cell_regrown c0
  have r1 := cell_regrown c1
  have HQ := Lib.hid hq
  clear hq
  go_enter Try.func66, Try.ntmps66
  go_upto_region 1 with (fail)
  refine wp_region_quiet_below (by kernel_rfl) (by kernel_rfl) ?_
  repeat (go_big_quiet_step (exact Calls.regrown_of (kc _)))
  refine wpQuiet_nil ?_
  intro _ hw'
  obtain ⟨⟨dq, osq⟩, hw''⟩ := hw'
  subst hw''
  have ba := blk_new w (.cells #[.string ⟨#[]⟩, .int .i64 0, .int .i64 0] 40)
  have B1 := below_regrown (w.alloc (.cells #[.string ⟨#[]⟩, .int .i64 0, .int .i64 0] 40)) dq osq
  have G1 := (grown_below Ba (some g)).trans (grown_below B1 (some g))
  have b1 := blk_below Ha.blk B1
  have p1 := blk_below ba B1
  clear kc r0 r1 c0 c1 Ha ba B1 Ba hx
  generalize Go.Sort.grow (redrawn (w.alloc (.cells #[.string ⟨#[]⟩, .int .i64 0, .int .i64 0] 40)) dq) osq = w1 at *
  dsimp only at b1
  have hpg : g ≠ w.heap.size := Nat.ne_of_lt hglt
  have d0 : w1.cell? ⟨g, 0, none⟩ = some (.string s) := (blk_cell b1 0).trans rfl
  have d1 : w1.cell? ⟨g, 1, none⟩ = some (.int .i64 ra) := (blk_cell b1 1).trans rfl
  have d2 : w1.cell? ⟨g, 2, none⟩ = some (.bool rb) := (blk_cell b1 2).trans rfl
  have f1 := blk_frozen b1 1
  have f2 := blk_frozen b1 2
  have x0 : w1.cell? ⟨w.heap.size, 0, none⟩ = some (.string ⟨#[]⟩) := (blk_cell p1 0).trans rfl
  have x1 : w1.cell? ⟨w.heap.size, 1, none⟩ = some (.int .i64 0) := (blk_cell p1 1).trans rfl
  have x2 : w1.cell? ⟨w.heap.size, 2, none⟩ = some (.int .i64 0) := (blk_cell p1 2).trans rfl
  have y0 := blk_frozen p1 0
  have y1 := blk_frozen p1 1
  have y2 := blk_frozen p1 2
  by_cases hbad : (rb || e != 0) = true
  · have hv : q = zQ ∧ r' = ⟨ra, true⟩ := by
      have := HQ.out
      rw [if_pos hbad] at this
      injection this with this
      injection this with h1 h2
      exact ⟨h1.symm, h2.symm⟩
    obtain ⟨rfl, rfl⟩ := hv
    clear HQ
    have bf := blk_put b1 2 (.bool true) rfl
    have pf := blk_set_ne (p := ⟨g, 2, none⟩) p1 (Ne.symm hpg) (.bool true)
    have hb2 : rb = true ∨ (rb = false ∧ e ≠ 0) := by cases rb <;> simp_all
    have pF := blk_put (blk_put (blk_put pf 0 (.string ⟨#[]⟩) rfl) 1 (.int .i64 0) rfl) 2 (.int .i64 0) rfl
    have bF := blk_set_ne (p := ⟨w.heap.size, 2, none⟩) (blk_set_ne (p := ⟨w.heap.size, 1, none⟩) (blk_set_ne (p := ⟨w.heap.size, 0, none⟩) bf hpg (.string ⟨#[]⟩)) hpg (.int .i64 0)) hpg (.int .i64 0)
    have GF := grown_far (p := ⟨w.heap.size, 2, none⟩) (grown_far (p := ⟨w.heap.size, 1, none⟩) (grown_far (p := ⟨w.heap.size, 0, none⟩) (grown_set' G1 2 (.bool true)) (Nat.le_refl _) (.string ⟨#[]⟩)) (Nat.le_refl _) (.int .i64 0)) (Nat.le_refl _) (.int .i64 0)
    have e0 := (blk_cell pF 0).trans rfl
    have e1 := (blk_cell pF 1).trans rfl
    have e2 := (blk_cell pF 2).trans rfl
    rcases hb2 with rfl | ⟨rfl, he⟩
    · go_wp2
      exact bodyPost_ret (v := .agg #[.string ⟨#[]⟩, .int .i64 0, .int .i64 0]) (by simp [results, Try.results66, go_sem, e0, e1, e2]) rfl ⟨rfl, ⟨bF⟩, GF⟩
    · have q1 : (e == 0) = false := by simp [he]
      go_wp2
      exact bodyPost_ret (v := .agg #[.string ⟨#[]⟩, .int .i64 0, .int .i64 0]) (by simp [results, Try.results66, go_sem, e0, e1, e2]) rfl ⟨rfl, ⟨bF⟩, GF⟩
  · have hb2 : rb = false ∧ e = 0 := by
      cases rb with
      | true => simp at hbad
      | false => simpa using hbad
    obtain ⟨rfl, rfl⟩ := hb2
    have hv := HQ.out
    rw [if_neg hbad] at hv
    injection hv with hv
    injection hv with h1 h2
    clear HQ hbad
    obtain ⟨V1, hV1⟩ : ∃ V, numV ⟨a, false⟩ (u16V s a) = V := ⟨_, rfl⟩
    rw [hV1] at h1 h2
    obtain ⟨V2, hV2⟩ : ∃ V, numV V1.2 (u16V s V1.2.at_) = V := ⟨_, rfl⟩
    rw [hV2] at h1 h2
    have HV1 := Lib.hid hV1
    have HV2 := Lib.hid hV2
    have HQ1 := Lib.hid h1
    have HQ2 := Lib.hid h2
    clear hV1 hV2 h1 h2
    have b2 := blk_put (blk_put b1 2 (.bool false) rfl) 1 (.int .i64 a) rfl
    have p2 := blk_set_ne (p := ⟨g, 1, none⟩) (blk_set_ne (p := ⟨g, 2, none⟩) p1 (Ne.symm hpg) (.bool false)) (Ne.symm hpg) (.int .i64 a)
    have G2 := grown_set' (grown_set' G1 2 (.bool false)) 1 (.int .i64 a)
    go_wp2_with fail
    generalize (w1.setCell ⟨g, 2, none⟩ (.bool false)).setCell ⟨g, 1, none⟩ (.int .i64 a) = w2 at *
    have kn := num16 (w := w2) (r := ⟨a, false⟩) ⟨b2⟩ hs
    dsimp only at kn
    rw [HV1.out] at kn
    refine kn.mono ?_
    rintro e w3 ⟨rfl, H3, G3⟩
    have p3 := blk_grown p2 G3 (by intro q; injection q with q; exact hpg q.symm)
    replace G3 := G2.trans G3
    clear kn b2 p2 G2 p1 b1 G1 d0 d1 d2 f1 f2 x0 x1 x2 y0 y1 y2
    have Bb : Below w3.heap.size w3 (w3.alloc (.cells #[.string n, .int .i64 V1.1, .int .i64 0] 40)) := (Below.refl _ _).alloc (Nat.le_refl _) _
    have q3 := blk_new w3 (.cells #[.string n, .int .i64 V1.1, .int .i64 0] 40)
    have H3a := H3.below Bb
    have p3a := blk_below p3 Bb
    have G3a := grown_alloc' G3 (.cells #[.string n, .int .i64 V1.1, .int .i64 0] 40)
    have hbg : g ≠ w3.heap.size := Nat.ne_of_lt (blk_lt H3.blk)
    have hbp : w.heap.size ≠ w3.heap.size := Nat.ne_of_lt (blk_lt p3)
    have hw3 : w.heap.size ≤ w3.heap.size := G3.size
    go_wp2_with fail
    generalize w3.alloc (.cells #[.string n, .int .i64 V1.1, .int .i64 0] 40) = w3a at *
    generalize w3.heap.size = kb at *
    have kn := num16 H3a hs
    rw [HV2.out] at kn
    refine kn.mono ?_
    rintro e w4 ⟨rfl, H4, G4⟩
    have p4 := blk_grown p3a G4 (by intro q; injection q with q; exact hpg q.symm)
    have q4 := blk_grown q3 G4 (by intro q; injection q with q; exact hbg q.symm)
    replace G4 := G3a.trans G4
    have b4 := H4.blk
    clear kn p3a q3 G3a G3 H3 H3a Bb p3 H4
    obtain ⟨v2, ⟨ra2, rb2⟩⟩ := V2
    obtain ⟨v1, r1⟩ := V1
    dsimp only at b4 q4 HQ1 HQ2 ⊢
    -- the box with its class
    have q5 := blk_put q4 2 (.int .i64 v2) rfl
    have b5 := blk_set_ne (p := ⟨kb, 2, none⟩) b4 hbg (.int .i64 v2)
    have p5 := blk_set_ne (p := ⟨kb, 2, none⟩) p4 hbp (.int .i64 v2)
    have z1 : w4.cell? ⟨kb, 2, none⟩ = some (.int .i64 0) := (blk_cell q4 2).trans rfl
    have z2 := blk_frozen q4 2
    have z3 := (blk_cell b5 2).trans rfl
    have z4 := blk_frozen b5 2
    have z5 := (blk_cell q5 1).trans rfl
    have G5 := grown_far (p := ⟨kb, 2, none⟩) G4 hw3 (.int .i64 v2)
    have fin : ∀ bb : Bool, ∃ W, W = (((((w4.setCell ⟨kb, 2, none⟩ (.int .i64 v2)).setCell ⟨g, 2, none⟩ (.bool bb)).setCell ⟨w.heap.size, 0, none⟩ (.string n)).setCell ⟨w.heap.size, 1, none⟩ (.int .i64 v1)).setCell ⟨w.heap.size, 2, none⟩ (.int .i64 v2)) ∧ W.heap[w.heap.size]? = some (.cells #[.string n, .int .i64 v1, .int .i64 v2] 40 (0, 0)) ∧ W.heap[g]? = some (.cells #[.string s, .int .i64 ra2, .bool bb] 120 (0, 0)) ∧ w.grownBy W (some g) := by
      intro bb
      have b6 := blk_put b5 2 (.bool bb) rfl
      have p6 := blk_set_ne (p := ⟨g, 2, none⟩) p5 (Ne.symm hpg) (.bool bb)
      exact ⟨_, rfl, blk_put (blk_put (blk_put p6 0 (.string n) rfl) 1 (.int .i64 v1) rfl) 2 (.int .i64 v2) rfl,
        blk_set_ne (p := ⟨w.heap.size, 2, none⟩) (blk_set_ne (p := ⟨w.heap.size, 1, none⟩) (blk_set_ne (p := ⟨w.heap.size, 0, none⟩) b6 hpg (.string n)) hpg (.int .i64 v1)) hpg (.int .i64 v2),
        grown_far (p := ⟨w.heap.size, 2, none⟩) (grown_far (p := ⟨w.heap.size, 1, none⟩) (grown_far (p := ⟨w.heap.size, 0, none⟩) (grown_set' G5 2 (.bool bb)) (Nat.le_refl _) (.string n)) (Nat.le_refl _) (.int .i64 v1)) (Nat.le_refl _) (.int .i64 v2)⟩
    have fs : ∀ bb : Bool, (((w4.setCell ⟨kb, 2, none⟩ (.int .i64 v2)).setCell ⟨g, 2, none⟩ (.bool bb)).heap[kb]? = some (.cells #[.string n, .int .i64 v1, .int .i64 v2] 40 (0, 0))) ∧ (((w4.setCell ⟨kb, 2, none⟩ (.int .i64 v2)).setCell ⟨g, 2, none⟩ (.bool bb)).heap[w.heap.size]? = some (.cells #[.string ⟨#[]⟩, .int .i64 0, .int .i64 0] 40 (0, 0))) :=
      fun bb => ⟨blk_set_ne (p := ⟨g, 2, none⟩) q5 (Ne.symm hbg) (.bool bb), blk_set_ne (p := ⟨g, 2, none⟩) p5 (Ne.symm hpg) (.bool bb)⟩
    have FIN := Lib.hid fin
    have FS := Lib.hid fs
    clear fin fs
    cases rb2 with
    | true =>
      obtain ⟨W, hW, pF, bF, GF⟩ := FIN.out true
      have S := FS.out true
      have l0 := (blk_cell S.1 0).trans rfl
      have l1 := (blk_cell S.1 1).trans rfl
      have l2 := (blk_cell S.1 2).trans rfl
      have m0 := (blk_cell S.2 0).trans rfl
      have m1 := (blk_cell S.2 1).trans rfl
      have m2 := (blk_cell S.2 2).trans rfl
      have n0 := blk_frozen S.2 0
      have n1 := blk_frozen S.2 1
      have n2 := blk_frozen S.2 2
      have e0 := (blk_cell pF 0).trans rfl
      have e1 := (blk_cell pF 1).trans rfl
      have e2 := (blk_cell pF 2).trans rfl
      subst hW
      go_wp2
      exact bodyPost_ret (v := .agg #[.string n, .int .i64 v1, .int .i64 v2]) (by simp [results, Try.results66, go_sem, e0, e1, e2]) rfl ⟨by rw [← HQ1.out], by rw [← HQ2.out]; exact ⟨bF⟩, GF⟩
    | false =>
      by_cases hv1 : v1 = 0
      · subst hv1
        obtain ⟨W, hW, pF, bF, GF⟩ := FIN.out true
        have S := FS.out true
        have l0 := (blk_cell S.1 0).trans rfl
        have l1 := (blk_cell S.1 1).trans rfl
        have l2 := (blk_cell S.1 2).trans rfl
        have m0 := (blk_cell S.2 0).trans rfl
        have m1 := (blk_cell S.2 1).trans rfl
        have m2 := (blk_cell S.2 2).trans rfl
        have n0 := blk_frozen S.2 0
        have n1 := blk_frozen S.2 1
        have n2 := blk_frozen S.2 2
        have e0 := (blk_cell pF 0).trans rfl
        have e1 := (blk_cell pF 1).trans rfl
        have e2 := (blk_cell pF 2).trans rfl
        subst hW
        go_wp2
        exact bodyPost_ret (v := .agg #[.string n, .int .i64 0, .int .i64 v2]) (by simp [results, Try.results66, go_sem, e0, e1, e2]) rfl ⟨by rw [← HQ1.out], by rw [← HQ2.out]; exact ⟨bF⟩, GF⟩
      · have q1 : (v1 == 0) = false := by simp [hv1]
        rw [q1] at HQ2
        obtain ⟨W, hW, pF, bF, GF⟩ := FIN.out false
        have S := FS.out false
        have l0 := (blk_cell S.1 0).trans rfl
        have l1 := (blk_cell S.1 1).trans rfl
        have l2 := (blk_cell S.1 2).trans rfl
        have m0 := (blk_cell S.2 0).trans rfl
        have m1 := (blk_cell S.2 1).trans rfl
        have m2 := (blk_cell S.2 2).trans rfl
        have n0 := blk_frozen S.2 0
        have n1 := blk_frozen S.2 1
        have n2 := blk_frozen S.2 2
        have e0 := (blk_cell pF 0).trans rfl
        have e1 := (blk_cell pF 1).trans rfl
        have e2 := (blk_cell pF 2).trans rfl
        subst hW
        go_wp2
        exact bodyPost_ret (v := .agg #[.string n, .int .i64 v1, .int .i64 v2]) (by simp [results, Try.results66, go_sem, e0, e1, e2]) rfl ⟨by rw [← HQ1.out], by rw [← HQ2.out]; exact ⟨bF⟩, GF⟩
end
end Go.Proofs.Ytjklgdpffmaamaa.Wm

namespace Go.Proofs.Ytjklgdpffmaamaa.Wm
open Go.RowKit Go.PlainAid Go.Maps Go.Proofs.Ytjklgdpffmaamaa.Base Go.Proofs.Ytjklgdpffmaamaa.Oct Go.Proofs.Ytjklgdpffmaamaa.Nm
open Go.Proofs.YtjklgdpffmaamaaW.PrintWords (blk_cell blk_below blk_put blk_frozen blk_ne blk_new blk_lt blk_grown LeO)
set_option linter.unusedVariables false
def recN1 (s : ByteArray) (x : Qn × Rs) : Int × Rs := numV x.2 (u32V s x.2.at_)
def recN2 (s : ByteArray) (x : Qn × Rs) : Int × Rs := numV (recN1 s x).2 (u16V s (recN1 s x).2.at_)
/-- A record that is read. -/
def recV (k : Nat) (s : ByteArray) (r : Rs) : Option (Rr × Rs) :=
  (questV k s r).bind fun x => (PCm.comp_Data.f k s (recN2 s x).2.at_ (recN2 s x).1 x.1.type).bind fun y =>
    if (recN2 s x).2.bad || y.2 != 0 then some (zR, ⟨(recN2 s x).2.at_, true⟩) else some (⟨x.1.name, x.1.type, x.1.cls, (recN1 s x).1, y.1⟩, ⟨wrap64 ((recN2 s x).2.at_ + (recN2 s x).1), false⟩)
section
variable {w w1 w' : World} {g : Nat} {s : ByteArray} {r : Rs}
set_option maxHeartbeats 8000000 in
set_option maxRecDepth 100000 in
theorem recc (H : RdAt w g s r) (hs : s.size ≤ 4096) {k : Nat} {q : Rr} {r' : Rs} (hq : recV k s r = some (q, r')) : Calls Try.prog 68 #[.pointer (some ⟨g, 0, none⟩)] w fun e w' => e = .returned (.agg #[.string q.name, .int .i64 q.type, .int .i64 q.cls, .int .i64 q.ttl, .string q.data]) ∧ RdAt w' g s r' ∧ w.grownBy w' (some g) := by
  have hglt := blk_lt H.blk
  unfold recV at hq
  obtain ⟨⟨x, rx⟩, hx, hq⟩ := Option.bind_eq_some_iff.1 hq
  obtain ⟨y, hy, hq⟩ := Option.bind_eq_some_iff.1 hq
  have Ba : Below w.heap.size w (w.alloc (.cells #[.string ⟨#[]⟩, .int .i64 0, .int .i64 0, .int .i64 0, .string ⟨#[]⟩] 53)) := (Below.refl _ _).alloc (Nat.le_refl _) _
  have pa := blk_new w (.cells #[.string ⟨#[]⟩, .int .i64 0, .int .i64 0, .int .i64 0, .string ⟨#[]⟩] 53)
  have kq := questc (H.below Ba) hs hx
  have kd := fun w => PCm.comp_Data.calls k s (recN2 s (x, rx)).2.at_ (recN2 s (x, rx)).1 x.type y.1 y.2 w hy
  obtain ⟨d, e⟩ := y
  dsimp only at hq kd
  obtain ⟨N1, hN1⟩ : ∃ N, recN1 s (x, rx) = N := ⟨_, rfl⟩
  obtain ⟨N2, hN2⟩ : ∃ N, recN2 s (x, rx) = N := ⟨_, rfl⟩
  rw [hN1, hN2] at hq
  simp only [hN2] at kd
  have HN1 := Lib.hid hN1
  have HN2 := Lib.hid hN2
  have HQ := Lib.hid hq
  clear hN1 hN2 hq hx hy
  go_enter Try.func68, Try.ntmps68
  go_wp2_with fail
  refine kq.mono ?_
  generalize w.alloc (.cells #[.string ⟨#[]⟩, .int .i64 0, .int .i64 0, .int .i64 0, .string ⟨#[]⟩] 53) = wa at *
  rintro e w1 ⟨rfl, H1, G1⟩
  have hpg : g ≠ w.heap.size := Nat.ne_of_lt hglt
  have p1 := blk_grown pa G1 (by intro q; injection q with q; exact hpg q.symm)
  replace G1 := (grown_below Ba (some g)).trans G1
  clear kq pa Ba
  have Bb : Below w1.heap.size w1 (w1.alloc (.cells #[.string x.name, .int .i64 x.type, .int .i64 x.cls] 40)) := (Below.refl _ _).alloc (Nat.le_refl _) _
  have q1 := blk_new w1 (.cells #[.string x.name, .int .i64 x.type, .int .i64 x.cls] 40)
  have H2 := H1.below Bb
  have p2 := blk_below p1 Bb
  have G2 := grown_alloc' G1 (.cells #[.string x.name, .int .i64 x.type, .int .i64 x.cls] 40)
  have hqg : g ≠ w1.heap.size := Nat.ne_of_lt (blk_lt H1.blk)
  go_upto_region 2 with (fail)
  generalize w1.alloc (.cells #[.string x.name, .int .i64 x.type, .int .i64 x.cls] 40) = w2 at *
  generalize w1.heap.size = kq at *
  clear H1 G1 p1 Bb
  have q0 : w2.cell? ⟨kq, 0, none⟩ = some (.string x.name) := (blk_cell q1 0).trans rfl
  have q2 : w2.cell? ⟨kq, 1, none⟩ = some (.int .i64 x.type) := (blk_cell q1 1).trans rfl
  have q3 : w2.cell? ⟨kq, 2, none⟩ = some (.int .i64 x.cls) := (blk_cell q1 2).trans rfl
  have D2 : Below w2.heap.size w2 w2.drew := (Below.refl _ _).drew
  have H2d := H2.below D2
  have p2d := blk_below p2 D2
  have q1d := blk_below q1 D2
  have G2d := G2.trans (grown_below D2 (some g))
  have Dq := blk_below q1 ((Below.refl w2.heap.size w2).alloc (Nat.le_refl _) (.cells #[.string ⟨#[]⟩, .int .i64 0, .int .i64 0, .int .i64 0, .string ⟨#[]⟩] 53))
  have ea0 : (w2.alloc (.cells #[.string ⟨#[]⟩, .int .i64 0, .int .i64 0, .int .i64 0, .string ⟨#[]⟩] 53)).cell? ⟨kq, 0, none⟩ = some (.string x.name) := (blk_cell Dq 0).trans rfl
  have ea1 : (w2.alloc (.cells #[.string ⟨#[]⟩, .int .i64 0, .int .i64 0, .int .i64 0, .string ⟨#[]⟩] 53)).cell? ⟨kq, 1, none⟩ = some (.int .i64 x.type) := (blk_cell Dq 1).trans rfl
  have ea2 : (w2.alloc (.cells #[.string ⟨#[]⟩, .int .i64 0, .int .i64 0, .int .i64 0, .string ⟨#[]⟩] 53)).cell? ⟨kq, 2, none⟩ = some (.int .i64 x.cls) := (blk_cell Dq 2).trans rfl
  have nw0 := World.new_ne w2 ⟨kq, 0, none⟩ q0
  have nw1 := World.new_ne w2 ⟨kq, 1, none⟩ q2
  have nw2 := World.new_ne w2 ⟨kq, 2, none⟩ q3
  have De : Below w2.heap.size w2 (w2.alloc (.cells #[.string ⟨#[]⟩, .int .i64 0, .int .i64 0, .int .i64 0, .string ⟨#[]⟩] 53)).drew := ((Below.refl _ _).alloc (Nat.le_refl _) _).drew
  have H2e := H2.below De
  have p2e := blk_below p2 De
  have q1e := blk_below q1 De
  have k2e : (w2.alloc (.cells #[.string ⟨#[]⟩, .int .i64 0, .int .i64 0, .int .i64 0, .string ⟨#[]⟩] 53)).drew.heap[w2.heap.size]? = some (.cells #[.string ⟨#[]⟩, .int .i64 0, .int .i64 0, .int .i64 0, .string ⟨#[]⟩] 53 (0, 0)) := blk_new w2 _
  have G2e := G2.trans (grown_below De (some g))
  have hg2 : g ≠ w2.heap.size := Nat.ne_of_lt (blk_lt H2.blk)
  have hp2 : w.heap.size < w2.heap.size := blk_lt p2
  have hpk : w.heap.size ≠ w2.heap.size := Nat.ne_of_lt hp2
  have FQ : ∀ (W w3 : World), W.heap[kq]? = some (.cells #[.string x.name, .int .i64 x.type, .int .i64 x.cls] 40 (0, 0)) → W.grownBy w3 (some g) → w3.cell? ⟨kq, 0, none⟩ = some (.string x.name) ∧ w3.cell? ⟨kq, 1, none⟩ = some (.int .i64 x.type) ∧ w3.cell? ⟨kq, 2, none⟩ = some (.int .i64 x.cls) ∧ kq < w3.heap.size ∧ (∀ o, (w3.alloc o).cell? ⟨kq, 0, none⟩ = some (.string x.name) ∧ (w3.alloc o).cell? ⟨kq, 1, none⟩ = some (.int .i64 x.type) ∧ (w3.alloc o).cell? ⟨kq, 2, none⟩ = some (.int .i64 x.cls)) := fun W w3 h G => by
    have b := blk_grown h G (by intro q; injection q with q; exact hqg q.symm)
    have ba := fun o => blk_below b ((Below.refl w3.heap.size w3).alloc (Nat.le_refl _) o)
    exact ⟨(blk_cell b 0).trans rfl, (blk_cell b 1).trans rfl, (blk_cell b 2).trans rfl, blk_lt b, fun o => ⟨(blk_cell (ba o) 0).trans rfl, (blk_cell (ba o) 1).trans rfl, (blk_cell (ba o) 2).trans rfl⟩⟩
  have FK : ∀ (W w3 : World), W.heap[w2.heap.size]? = some (.cells #[.string ⟨#[]⟩, .int .i64 0, .int .i64 0, .int .i64 0, .string ⟨#[]⟩] 53 (0, 0)) → W.grownBy w3 (some g) →
      w3.heap[w2.heap.size]? = some (.cells #[.string ⟨#[]⟩, .int .i64 0, .int .i64 0, .int .i64 0, .string ⟨#[]⟩] 53 (0, 0)) ∧ w3.cell? ⟨w2.heap.size, 0, none⟩ = some (.string ⟨#[]⟩) ∧ w3.cell? ⟨w2.heap.size, 1, none⟩ = some (.int .i64 0) ∧ w3.cell? ⟨w2.heap.size, 2, none⟩ = some (.int .i64 0) ∧ w3.cell? ⟨w2.heap.size, 3, none⟩ = some (.int .i64 0) ∧ w3.cell? ⟨w2.heap.size, 4, none⟩ = some (.string ⟨#[]⟩) ∧ w3.frozen? ⟨w2.heap.size, 0, none⟩ = false ∧ w3.frozen? ⟨w2.heap.size, 1, none⟩ = false ∧ w3.frozen? ⟨w2.heap.size, 2, none⟩ = false ∧ w3.frozen? ⟨w2.heap.size, 3, none⟩ = false ∧ w3.frozen? ⟨w2.heap.size, 4, none⟩ = false := fun W w3 h G => by
    have b := blk_grown h G (by intro q; injection q with q; exact hg2 q.symm)
    exact ⟨b, (blk_cell b 0).trans rfl, (blk_cell b 1).trans rfl, (blk_cell b 2).trans rfl, (blk_cell b 3).trans rfl, (blk_cell b 4).trans rfl, blk_frozen b 0, blk_frozen b 1, blk_frozen b 2, blk_frozen b 3, blk_frozen b 4⟩
  have F1 : ∀ (w3 : World) (t : Int), RdAt w3 g s (numV rx (u32V s rx.at_)).2 → w3.heap[w.heap.size]? = some (.cells #[.string ⟨#[]⟩, .int .i64 0, .int .i64 0, .int .i64 0, .string ⟨#[]⟩] 53 (0, 0)) → w.grownBy w3 (some g) → ∃ W, W = w3.alloc (.cells #[.string x.name, .int .i64 x.type, .int .i64 x.cls, .int .i64 t, .string ⟨#[]⟩] 53) ∧ W.heap[w3.heap.size]? = some (.cells #[.string x.name, .int .i64 x.type, .int .i64 x.cls, .int .i64 t, .string ⟨#[]⟩] 53 (0, 0)) ∧ w.heap.size < w3.heap.size ∧ RdAt W g s (numV rx (u32V s rx.at_)).2 ∧ W.heap[w.heap.size]? = some (.cells #[.string ⟨#[]⟩, .int .i64 0, .int .i64 0, .int .i64 0, .string ⟨#[]⟩] 53 (0, 0)) ∧ w.grownBy W (some g) := by
    intro w3 t H p G
    have Bz : Below w3.heap.size w3 (w3.alloc (.cells #[.string x.name, .int .i64 x.type, .int .i64 x.cls, .int .i64 t, .string ⟨#[]⟩] 53)) := (Below.refl _ _).alloc (Nat.le_refl _) _
    exact ⟨_, rfl, blk_new w3 _, blk_lt p, H.below Bz, blk_below p Bz, grown_alloc' G _⟩
  have F2 : ∀ (w3 : World) (t : Int), RdAt w3 g s (numV rx (u32V s rx.at_)).2 → w3.heap[w2.heap.size]? = some (.cells #[.string ⟨#[]⟩, .int .i64 0, .int .i64 0, .int .i64 0, .string ⟨#[]⟩] 53 (0, 0)) → w3.heap[w.heap.size]? = some (.cells #[.string ⟨#[]⟩, .int .i64 0, .int .i64 0, .int .i64 0, .string ⟨#[]⟩] 53 (0, 0)) → w.grownBy w3 (some g) → ∃ W, W = (((((w3.setCell ⟨w2.heap.size, 0, none⟩ (.string x.name)).setCell ⟨w2.heap.size, 1, none⟩ (.int .i64 x.type)).setCell ⟨w2.heap.size, 2, none⟩ (.int .i64 x.cls)).setCell ⟨w2.heap.size, 3, none⟩ (.int .i64 t)).setCell ⟨w2.heap.size, 4, none⟩ (.string ⟨#[]⟩)) ∧ W.heap[w2.heap.size]? = some (.cells #[.string x.name, .int .i64 x.type, .int .i64 x.cls, .int .i64 t, .string ⟨#[]⟩] 53 (0, 0)) ∧ RdAt W g s (numV rx (u32V s rx.at_)).2 ∧ W.heap[w.heap.size]? = some (.cells #[.string ⟨#[]⟩, .int .i64 0, .int .i64 0, .int .i64 0, .string ⟨#[]⟩] 53 (0, 0)) ∧ w.grownBy W (some g) := by
    intro w3 t H k p G
    have le := Nat.le_of_lt hp2
    refine ⟨_, rfl, blk_put (blk_put (blk_put (blk_put (blk_put k 0 (.string x.name) rfl) 1 (.int .i64 x.type) rfl) 2 (.int .i64 x.cls) rfl) 3 (.int .i64 t) rfl) 4 (.string ⟨#[]⟩) rfl, ⟨?_⟩, ?_, ?_⟩
    · exact blk_set_ne (p := ⟨w2.heap.size, 4, none⟩) (blk_set_ne (p := ⟨w2.heap.size, 3, none⟩) (blk_set_ne (p := ⟨w2.heap.size, 2, none⟩) (blk_set_ne (p := ⟨w2.heap.size, 1, none⟩) (blk_set_ne (p := ⟨w2.heap.size, 0, none⟩) H.blk hg2 _) hg2 _) hg2 _) hg2 _) hg2 _
    · exact blk_set_ne (p := ⟨w2.heap.size, 4, none⟩) (blk_set_ne (p := ⟨w2.heap.size, 3, none⟩) (blk_set_ne (p := ⟨w2.heap.size, 2, none⟩) (blk_set_ne (p := ⟨w2.heap.size, 1, none⟩) (blk_set_ne (p := ⟨w2.heap.size, 0, none⟩) p hpk _) hpk _) hpk _) hpk _) hpk _
    · exact grown_far (p := ⟨w2.heap.size, 4, none⟩) (grown_far (p := ⟨w2.heap.size, 3, none⟩) (grown_far (p := ⟨w2.heap.size, 2, none⟩) (grown_far (p := ⟨w2.heap.size, 1, none⟩) (grown_far (p := ⟨w2.heap.size, 0, none⟩) G le _) le _) le _) le _) le _
  have P3 : ∀ (W w3 : World), W.heap[w.heap.size]? = some (.cells #[.string ⟨#[]⟩, .int .i64 0, .int .i64 0, .int .i64 0, .string ⟨#[]⟩] 53 (0, 0)) → W.grownBy w3 (some g) → w3.heap[w.heap.size]? = some (.cells #[.string ⟨#[]⟩, .int .i64 0, .int .i64 0, .int .i64 0, .string ⟨#[]⟩] 53 (0, 0)) := fun W w3 h G => blk_grown h G (by intro q; injection q with q; exact hpg q.symm)
  have HF1 := Lib.hid F1
  have HF2 := Lib.hid F2
  have HP3 := Lib.hid P3
  have HFQ := Lib.hid FQ
  have HFK := Lib.hid FK
  clear F1 F2 P3
  go_cut [4] (fun v4 wc => ∃ kb, v4 = .pointer (some ⟨kb, 0, none⟩) ∧ wc.heap[kb]? = some (.cells #[.string x.name, .int .i64 x.type, .int .i64 x.cls, .int .i64 N1.1, .string ⟨#[]⟩] 53 (0, 0)) ∧ w.heap.size < kb ∧ RdAt wc g s N1.2 ∧ wc.heap[w.heap.size]? = some (.cells #[.string ⟨#[]⟩, .int .i64 0, .int .i64 0, .int .i64 0, .string ⟨#[]⟩] 53 (0, 0)) ∧ w.grownBy wc (some g))
  case first =>
    go_region_held3 (fun w' => w'.cell? ⟨kq, 0, none⟩ = some (.string x.name) ∧ w'.cell? ⟨kq, 1, none⟩ = some (.int .i64 x.type) ∧ w'.cell? ⟨kq, 2, none⟩ = some (.int .i64 x.cls))
      (first | with_reducible exact ⟨q0, q2, q3⟩ | with_reducible exact ⟨ea0, ea1, ea2⟩ | with_reducible exact ⟨q30, q31, q32⟩ | with_reducible exact ⟨qa0, qa1, qa2⟩ | (go_keep; done) | (refine ⟨?_, ?_, ?_⟩ <;> (go_simp; done)))
      (first
      | (go_at_call 95; with_reducible refine (num32 H2d hs).mono ?_; rintro e w3 ⟨rfl, H3, G3⟩; obtain ⟨q30, q31, q32, qlt, qal⟩ := FQ _ _ q1d G3; have nv0 := World.new_ne w3 ⟨kq, 0, none⟩ q30; have nv1 := World.new_ne w3 ⟨kq, 1, none⟩ q31; have nv2 := World.new_ne w3 ⟨kq, 2, none⟩ q32; have qa0 := (qal (.cells #[.string ⟨#[]⟩, .int .i64 0, .int .i64 0, .int .i64 0, .string ⟨#[]⟩] 53)).1; have qa1 := (qal (.cells #[.string ⟨#[]⟩, .int .i64 0, .int .i64 0, .int .i64 0, .string ⟨#[]⟩] 53)).2.1; have qa2 := (qal (.cells #[.string ⟨#[]⟩, .int .i64 0, .int .i64 0, .int .i64 0, .string ⟨#[]⟩] 53)).2.2; clear qal)
      | (go_at_call 95; with_reducible refine (num32 H2e hs).mono ?_; rintro e w3 ⟨rfl, H3, G3⟩; obtain ⟨q30, q31, q32, qlt, qal⟩ := FQ _ _ q1e G3; have nv0 := World.new_ne w3 ⟨kq, 0, none⟩ q30; have nv1 := World.new_ne w3 ⟨kq, 1, none⟩ q31; have nv2 := World.new_ne w3 ⟨kq, 2, none⟩ q32; clear qal; obtain ⟨k3, m0, m1, m2, m3, m4, n0, n1, n2, n3, n4⟩ := FK _ _ k2e G3))
    all_goals
      go_wp2_with fail
      go_meet
      case rel =>
        have hN := HN1.out
        unfold recN1 at hN
        dsimp only at hN
        rw [← hN]
        first
        | (have hk3 := k3
           have hp3 := HP3.out (w2.alloc (.cells #[.string ⟨#[]⟩, .int .i64 0, .int .i64 0, .int .i64 0, .string ⟨#[]⟩] 53)).drew w3 p2e G3
           have hg3 := G2e.trans G3
           obtain ⟨W, hW, a, c, d, e⟩ := HF2.out w3 (numV rx (u32V s rx.at_)).1 H3 hk3 hp3 hg3
           rw [← hW]
           exact ⟨w2.heap.size, rfl, a, hp2, c, d, e⟩)
        | (have hp3 := HP3.out w2.drew w3 p2d G3
           have hg3 := G2d.trans G3
           obtain ⟨W, hW, a, b, c, d, e⟩ := HF1.out w3 (numV rx (u32V s rx.at_)).1 H3 hp3 hg3
           rw [← hW]
           exact ⟨w3.heap.size, rfl, a, b, c, d, e⟩)
  case rest =>
  clear HF1 HF2 HP3 HFQ HFK FQ FK
  obtain ⟨kb, rfl, bk, hkp, H4, p4, G4⟩ := hcut
  clear H2 p2 q1 G2 q0 q2 q3 D2 H2d p2d q1d G2d De H2e p2e q1e k2e G2e Dq ea0 ea1 ea2 nw0 nw1 nw2
  obtain ⟨n1, rn1⟩ := N1
  dsimp only at bk H4
  have hkg : g ≠ kb := blk_ne H4.blk bk (by decide)
  have hkp' : w.heap.size ≠ kb := Nat.ne_of_lt hkp
  have kn := num16 H4 hs
  have hN2 : numV rn1 (u16V s rn1.at_) = N2 := by have := HN2.out; unfold recN2 at this; rw [HN1.out] at this; exact this
  rw [hN2] at kn
  go_wp2_with fail
  refine kn.mono ?_
  rintro e5 w5 ⟨rfl, H5, G5⟩
  have b5k := blk_grown bk G5 (by intro q; injection q with q; exact hkg q.symm)
  have b5p := blk_grown p4 G5 (by intro q; injection q with q; exact hpg q.symm)
  replace G5 := G4.trans G5
  clear kn bk p4 G4 H4
  obtain ⟨n2, ⟨ra, rb⟩⟩ := N2
  have HQ2 := HQ.out
  dsimp only at H5 kd HQ2
  have HQQ := Lib.hid HQ2
  clear HQ2 HQ HN1 HN2
  have r0 := cell_regrown (show w5.cell? ⟨g, 0, none⟩ = some (.string s) from (blk_cell H5.blk 0).trans rfl)
  have r1 := cell_regrown (show w5.cell? ⟨g, 1, none⟩ = some (.int .i64 ra) from (blk_cell H5.blk 1).trans rfl)
  have r2 := cell_regrown (show w5.cell? ⟨kb, 1, none⟩ = some (.int .i64 x.type) from (blk_cell b5k 1).trans rfl)
  go_upto_region 4 with (fail)
  refine wp_region_quiet_below (by kernel_rfl) (by kernel_rfl) ?_
  repeat (go_big_quiet_step (exact Calls.regrown_of (kd _)))
  refine wpQuiet_nil ?_
  intro _ hw'
  obtain ⟨⟨dq, osq⟩, hw''⟩ := hw'
  subst hw''
  have B6 := below_regrown w5 dq osq
  have b6 := blk_below H5.blk B6
  have k6 := blk_below b5k B6
  have p6 := blk_below b5p B6
  have G6 := G5.trans (grown_below B6 (some g))
  clear kd r0 r1 r2 H5 b5k b5p G5 B6
  generalize Go.Sort.grow (redrawn w5 dq) osq = w6 at *
  dsimp only at b6
  have d1 : w6.cell? ⟨g, 1, none⟩ = some (.int .i64 ra) := (blk_cell b6 1).trans rfl
  have d2 : w6.cell? ⟨g, 2, none⟩ = some (.bool rb) := (blk_cell b6 2).trans rfl
  have f1 := blk_frozen b6 1
  have f2 := blk_frozen b6 2
  have x0 : w6.cell? ⟨w.heap.size, 0, none⟩ = some (.string ⟨#[]⟩) := (blk_cell p6 0).trans rfl
  have x1 : w6.cell? ⟨w.heap.size, 1, none⟩ = some (.int .i64 0) := (blk_cell p6 1).trans rfl
  have x2 : w6.cell? ⟨w.heap.size, 2, none⟩ = some (.int .i64 0) := (blk_cell p6 2).trans rfl
  have x3 : w6.cell? ⟨w.heap.size, 3, none⟩ = some (.int .i64 0) := (blk_cell p6 3).trans rfl
  have x4 : w6.cell? ⟨w.heap.size, 4, none⟩ = some (.string ⟨#[]⟩) := (blk_cell p6 4).trans rfl
  have y0 := blk_frozen p6 0
  have y1 := blk_frozen p6 1
  have y2 := blk_frozen p6 2
  have y3 := blk_frozen p6 3
  have y4 := blk_frozen p6 4
  by_cases hbad : (rb || e != 0) = true
  · have hv : q = zR ∧ r' = ⟨ra, true⟩ := by
      have := HQQ.out
      rw [if_pos hbad] at this
      injection this with this
      injection this with h1 h2
      exact ⟨h1.symm, h2.symm⟩
    obtain ⟨rfl, rfl⟩ := hv
    clear HQQ
    have bf := blk_put b6 2 (.bool true) rfl
    have pf := blk_set_ne (p := ⟨g, 2, none⟩) p6 (Ne.symm hpg) (.bool true)
    have hb2 : rb = true ∨ (rb = false ∧ e ≠ 0) := by cases rb <;> simp_all
    have pF := blk_put (blk_put (blk_put (blk_put (blk_put (pf) 0 (.string ⟨#[]⟩) rfl) 1 (.int .i64 0) rfl) 2 (.int .i64 0) rfl) 3 (.int .i64 0) rfl) 4 (.string ⟨#[]⟩) rfl
    have bF := blk_set_ne (p := ⟨w.heap.size, 4, none⟩) (blk_set_ne (p := ⟨w.heap.size, 3, none⟩) (blk_set_ne (p := ⟨w.heap.size, 2, none⟩) (blk_set_ne (p := ⟨w.heap.size, 1, none⟩) (blk_set_ne (p := ⟨w.heap.size, 0, none⟩) (bf) hpg (.string ⟨#[]⟩)) hpg (.int .i64 0)) hpg (.int .i64 0)) hpg (.int .i64 0)) hpg (.string ⟨#[]⟩)
    have GF := grown_far (p := ⟨w.heap.size, 4, none⟩) (grown_far (p := ⟨w.heap.size, 3, none⟩) (grown_far (p := ⟨w.heap.size, 2, none⟩) (grown_far (p := ⟨w.heap.size, 1, none⟩) (grown_far (p := ⟨w.heap.size, 0, none⟩) (grown_set' G6 2 (.bool true)) (Nat.le_refl _) (.string ⟨#[]⟩)) (Nat.le_refl _) (.int .i64 0)) (Nat.le_refl _) (.int .i64 0)) (Nat.le_refl _) (.int .i64 0)) (Nat.le_refl _) (.string ⟨#[]⟩)
    have e0 := (blk_cell pF 0).trans rfl
    have e1 := (blk_cell pF 1).trans rfl
    have e2 := (blk_cell pF 2).trans rfl
    have e3 := (blk_cell pF 3).trans rfl
    have e4 := (blk_cell pF 4).trans rfl
    rcases hb2 with rfl | ⟨rfl, he⟩
    · go_wp2
      exact bodyPost_ret (v := .agg #[.string ⟨#[]⟩, .int .i64 0, .int .i64 0, .int .i64 0, .string ⟨#[]⟩]) (by simp [results, Try.results68, go_sem, e0, e1, e2, e3, e4]) rfl ⟨rfl, ⟨bF⟩, GF⟩
    · have q1 : (e == 0) = false := by simp [he]
      go_wp2
      exact bodyPost_ret (v := .agg #[.string ⟨#[]⟩, .int .i64 0, .int .i64 0, .int .i64 0, .string ⟨#[]⟩]) (by simp [results, Try.results68, go_sem, e0, e1, e2, e3, e4]) rfl ⟨rfl, ⟨bF⟩, GF⟩
  · have hb2 : rb = false ∧ e = 0 := by
      cases rb with
      | true => simp at hbad
      | false => simpa using hbad
    obtain ⟨rfl, rfl⟩ := hb2
    have hv := HQQ.out
    rw [if_neg hbad] at hv
    injection hv with hv
    injection hv with h1 h2
    clear HQQ hbad
    have b7 := blk_put (blk_put b6 2 (.bool false) rfl) 1 (.int .i64 (wrap64 (ra + n2))) rfl
    have k7 := blk_set_ne (p := ⟨g, 1, none⟩) (blk_set_ne (p := ⟨g, 2, none⟩) k6 (Ne.symm hkg) (.bool false)) (Ne.symm hkg) (.int .i64 (wrap64 (ra + n2)))
    have p7 := blk_set_ne (p := ⟨g, 1, none⟩) (blk_set_ne (p := ⟨g, 2, none⟩) p6 (Ne.symm hpg) (.bool false)) (Ne.symm hpg) (.int .i64 (wrap64 (ra + n2)))
    have G7 := grown_set' (grown_set' G6 2 (.bool false)) 1 (.int .i64 (wrap64 (ra + n2)))
    have k8 := blk_put k7 4 (.string d) rfl
    have b8 := blk_set_ne (p := ⟨kb, 4, none⟩) b7 hkg (.string d)
    have p8 := blk_set_ne (p := ⟨kb, 4, none⟩) p7 hkp' (.string d)
    have G8 := grown_far (p := ⟨kb, 4, none⟩) G7 (Nat.le_of_lt hkp) (.string d)
    have pF := blk_put (blk_put (blk_put (blk_put (blk_put (p8) 0 (.string x.name) rfl) 1 (.int .i64 x.type) rfl) 2 (.int .i64 x.cls) rfl) 3 (.int .i64 n1) rfl) 4 (.string d) rfl
    have bF := blk_set_ne (p := ⟨w.heap.size, 4, none⟩) (blk_set_ne (p := ⟨w.heap.size, 3, none⟩) (blk_set_ne (p := ⟨w.heap.size, 2, none⟩) (blk_set_ne (p := ⟨w.heap.size, 1, none⟩) (blk_set_ne (p := ⟨w.heap.size, 0, none⟩) (b8) hpg (.string x.name)) hpg (.int .i64 x.type)) hpg (.int .i64 x.cls)) hpg (.int .i64 n1)) hpg (.string d)
    have GF := grown_far (p := ⟨w.heap.size, 4, none⟩) (grown_far (p := ⟨w.heap.size, 3, none⟩) (grown_far (p := ⟨w.heap.size, 2, none⟩) (grown_far (p := ⟨w.heap.size, 1, none⟩) (grown_far (p := ⟨w.heap.size, 0, none⟩) (G8) (Nat.le_refl _) (.string x.name)) (Nat.le_refl _) (.int .i64 x.type)) (Nat.le_refl _) (.int .i64 x.cls)) (Nat.le_refl _) (.int .i64 n1)) (Nat.le_refl _) (.string d)
    have e0 := (blk_cell pF 0).trans rfl
    have e1 := (blk_cell pF 1).trans rfl
    have e2 := (blk_cell pF 2).trans rfl
    have e3 := (blk_cell pF 3).trans rfl
    have e4 := (blk_cell pF 4).trans rfl
    have l0 := (blk_cell k8 0).trans rfl
    have l1 := (blk_cell k8 1).trans rfl
    have l2 := (blk_cell k8 2).trans rfl
    have l3 := (blk_cell k8 3).trans rfl
    have l4 := (blk_cell k8 4).trans rfl
    have m4 := (blk_cell k7 4).trans rfl
    have m5 := blk_frozen k7 4
    have z0 := (blk_cell p8 0).trans rfl
    have z1 := (blk_cell p8 1).trans rfl
    have z2 := (blk_cell p8 2).trans rfl
    have z3 := (blk_cell p8 3).trans rfl
    have z4 := (blk_cell p8 4).trans rfl
    have v0 := blk_frozen p8 0
    have v1 := blk_frozen p8 1
    have v2 := blk_frozen p8 2
    have v3 := blk_frozen p8 3
    have v4 := blk_frozen p8 4
    go_wp2
    exact bodyPost_ret (v := .agg #[.string x.name, .int .i64 x.type, .int .i64 x.cls, .int .i64 n1, .string d]) (by simp [results, Try.results68, go_sem, e0, e1, e2, e3, e4]) rfl ⟨by rw [← h1], by rw [← h2]; exact ⟨bF⟩, GF⟩
end
end Go.Proofs.Ytjklgdpffmaamaa.Wm

namespace Go.Proofs.Ytjklgdpffmaamaa.Wm
open Go.RowKit Go.PlainAid Go.Maps Go.Proofs.Ytjklgdpffmaamaa.Base Go.Proofs.Ytjklgdpffmaamaa.Oct Go.Proofs.Ytjklgdpffmaamaa.Nm
open Go.Proofs.YtjklgdpffmaamaaW.PrintWords (blk_cell blk_below blk_put blk_frozen blk_ne blk_new blk_lt blk_grown LeO own_nil own_ne own_other own_setCell)
set_option linter.unusedVariables false
section
variable {P : Program} {ops : Array Oper} {rest : List Oper} {o : Oper} {a : Act} {Q : Exit → Act → World → Prop}
/-- append(v, x), x an element of the cells cs, which lies in the variadic's own block: what has grown. -/
theorem app_elem {W : World} (base : Nat) (hgd : o.guard = none) (s x : Operand) (t e : TypeId) (z : Value) (size bytes : Nat)
    (ho : o.op = .call { callee := .builtin .append, args := #[s, x], argTypes := #[t, t] })
    (ht : P.underlying t = some (.slice e)) (hinfo : (P.info? e).map (fun i => (i.zero, i.size, i.bytes)) = some (some z, size, bytes)) (hz : z.cells.size = size) (hsz : 0 < size)
    {v : Value} {n : Nat} {xs : List Value} (HO : W.ownsRow base e size v n xs) (cs : Array Value) (hs : a.eval s = v) (hx : a.eval x = .slice (some ⟨W.heap.size, 0, none⟩) 1 1)
    (hc : cs.size = size) (h1 : ∀ u ∈ cs.toList, u.oneCell' = true) (hbase : base ≤ W.heap.size) (hn : n + 1 ≤ 140737488355328) (hl : (n + 1) * bytes ≤ 140737488355328)
    (h : ∀ v1 w1, w1.ownsRow base e size v1 (n + 1) (xs ++ cs.toList) → (W.alloc (.cells cs e)).grownBy w1 v.ownBlock → wpList P ops Q rest (a.put o.dst v1) w1) :
    wpList P ops Q (o :: rest) a (W.alloc (.cells cs e)) := by
  obtain ⟨i0, hi, hzz⟩ := Option.map_eq_some_iff.1 hinfo
  simp only [Prod.mk.injEq] at hzz
  obtain ⟨hz0, hz1, hz2⟩ := hzz
  refine wpList_append_own (W.alloc (.cells cs e)) hgd s x t ho base e i0 z size bytes ht hi hz0 hz1 hz2 hz hsz v n xs hs (HO.alloc _) ⟨W.heap.size, 0, none⟩ 1 1 cs.toList hx (by simp [hc])
    (World.news_of_block (cs := cs) (t := e) (fr := (0, 0)) (heap_alloc_new W _)) h1 (by simp only [maxLen]; omega) hl (by simp; omega) ?_
  intro v1 w1 hown hg _
  exact h v1 w1 hown hg
end
theorem grown_own {w W w1 : World} {g : Nat} {row : Option Nat} (h : w.grownBy W (some g)) (k : W.grownBy w1 row) (hr : ∀ b, row = some b → w.heap.size ≤ b) : w.grownBy w1 (some g) :=
  ⟨k.os.trans h.os, k.tape.trans h.tape, k.output.trans h.output, Nat.le_trans h.size k.size, fun i hi hne => (k.block i (Nat.lt_of_lt_of_le hi h.size) (fun e => by have := hr i e.symm; omega)).trans (h.block i hi hne)⟩

theorem info_Q : (Try.prog.info? 40).map (fun i => (i.zero, i.size, i.bytes)) = some (some (.agg #[.string ⟨#[]⟩, .int .i64 0, .int .i64 0]), 3, 32) := by kernel_rfl
abbrev cellQ (q : Qn) : Array Value := #[.string q.name, .int .i64 q.type, .int .i64 q.cls]
def cellsQ : List Qn → List Value
  | [] => []
  | q :: qs => (cellQ q).toList ++ cellsQ qs
theorem cellsQ_app (a b : List Qn) : cellsQ (a ++ b) = cellsQ a ++ cellsQ b := by
  induction a with
  | nil => rfl
  | cons p a ih => simp [cellsQ, ih]
def loopQ (k : Nat) (s : ByteArray) : Nat → Rs → List Qn → Option (List Qn × Rs)
  | 0, r, acc => some (acc, r)
  | n + 1, r, acc => if r.bad then some (acc, r) else (questV k s r).bind fun x => loopQ k s n x.2 (acc ++ [x.1])
/-- So many that are read. -/
def listQ (k : Nat) (s : ByteArray) (n : Nat) (r : Rs) : Option (List Qn × Rs) := loopQ k s n ⟨r.at_, r.bad || decide (64 < n)⟩ []
section
variable {w : World} {g : Nat} {s : ByteArray} {r : Rs}
set_option maxHeartbeats 4000000 in
set_option maxRecDepth 100000 in
theorem listQc (H : RdAt w g s r) (hs : s.size ≤ 4096) (n : Nat) (hn : n ≤ 65535) {k : Nat} {out : List Qn} {r' : Rs} (hq : listQ k s n r = some (out, r')) :
    Calls Try.prog 65 #[.pointer (some ⟨g, 0, none⟩), .int .i64 (n : Int), .func (.func 66) #[] #[]] w fun e w' => ∃ v, e = .returned v ∧ w'.ownsRow w.heap.size 40 3 v out.length (cellsQ out) ∧ RdAt w' g s r' ∧ w.grownBy w' (some g) := by
  have hglt := blk_lt H.blk
  obtain ⟨ra, rb⟩ := r
  have hblk := H.blk
  dsimp only at hblk
  have c2 : w.cell? ⟨g, 2, none⟩ = some (.bool rb) := (blk_cell hblk 2).trans rfl
  have f2 := blk_frozen hblk 2
  obtain ⟨b1, hb1⟩ : ∃ b, (rb || decide (64 < n)) = b := ⟨_, rfl⟩
  have h1 : RdAt (w.setCell ⟨g, 2, none⟩ (.bool b1)) g s ⟨ra, b1⟩ := ⟨blk_put hblk 2 _ rfl⟩
  have G1 := grown_set w g 2 (.bool b1)
  unfold listQ at hq
  dsimp only at hq
  rw [hb1] at hq
  have hsz1 : (w.setCell ⟨g, 2, none⟩ (.bool b1)).heap.size = w.heap.size := by simp [World.setCell]
  have hacc : b1 = false → n ≤ 64 := by
    intro e
    rw [e] at hb1
    cases rb <;> simp at hb1
    omega
  have hw : rb = true ∧ b1 = true ∨ rb = false ∧ 64 < n ∧ b1 = true ∨ rb = false ∧ ¬ 64 < n ∧ b1 = false := by
    cases rb with
    | true => exact .inl ⟨rfl, by simpa using hb1.symm⟩
    | false =>
      by_cases h : 64 < n
      · exact .inr (.inl ⟨rfl, h, by rw [← hb1]; simp [h]⟩)
      · exact .inr (.inr ⟨rfl, h, by rw [← hb1]; simp; omega⟩)
  have HQ := Lib.hid hq
  have HACC := Lib.hid hacc
  have HW := Lib.hid hw
  clear hq hacc hb1 hw
  go_enter Try.func65, Try.ntmps65
  go_upto_region 1 with (fail)
  go_cut [16] (fun v16 wc => wc = w.setCell ⟨g, 2, none⟩ (.bool b1))
  case first =>
    rcases HW.out with ⟨e1, e2⟩ | ⟨e1, h64, e2⟩ | ⟨e1, h64, e2⟩
    · subst e1; subst e2
      go_wp2
      go_meet
      case rel => rfl
    · subst e1; subst e2
      have qn : decide ((64 : Int) < (n : Int)) = true := by simp; omega
      go_wp2
      go_meet
      case rel => rfl
    · subst e1; subst e2
      have qn : decide ((64 : Int) < (n : Int)) = false := by simp; omega
      go_wp2
      go_meet
      case rel => rfl
  case rest =>
  subst hcut
  generalize w.setCell ⟨g, 2, none⟩ (.bool b1) = w1 at *
  clear c2 f2 hblk H
  go_wp2_with fail
  go_loopg [1, 7] (n + 1) (fun kk v1 v7 wr => ∃ (m : Nat) (rr : Rs) (acc : List Qn), v1 = .int .i64 (m : Int) ∧ kk = m + 1 ∧ m ≤ n ∧ loopQ k s m rr acc = some (out, r') ∧ RdAt wr g s rr ∧ wr.ownsRow w.heap.size 40 3 v7 acc.length (cellsQ acc) ∧ w.grownBy wr (some g) ∧ acc.length ≤ 64 ∧ (rr.bad = false → acc.length + m ≤ 64))
  case atStart => exact ⟨n, ⟨ra, b1⟩, [], rfl, rfl, Nat.le_refl _, HQ.out, h1, own_nil _ _ _ _, G1, by simp, fun e => by have := HACC.out e; simpa using this⟩
  case round =>
    obtain ⟨m, rr, acc, rfl, hkk, hmn, hlp, HR, hown, hG, hal, hbd⟩ := hrel
    have HLP := Lib.hid hlp
    have HBD := Lib.hid hbd
    clear hlp hbd
    obtain ⟨ra2, rb2⟩ := rr
    have c2 : wr.cell? ⟨g, 2, none⟩ = some (.bool rb2) := (blk_cell HR.blk 2).trans rfl
    have hsz := hG.size
    cases m with
    | zero =>
      have q0 : decide ((0 : Int) < ((0 : Nat) : Int)) = false := by decide
      have hl := HLP.out
      unfold loopQ at hl
      injection hl with hl
      injection hl with e1 e2
      go_wp2
      go_ret
      exact ⟨_, rfl, by rw [← e1]; exact hown, by rw [← e2]; exact HR, hG⟩
    | succ m =>
      have q0 : decide ((0 : Int) < ((m + 1 : Nat) : Int)) = true := by simp
      cases rb2 with
      | true =>
        have hl := HLP.out
        unfold loopQ at hl
        rw [if_pos rfl] at hl
        injection hl with hl
        injection hl with e1 e2
        go_wp2
        go_ret
        exact ⟨_, rfl, by rw [← e1]; exact hown, by rw [← e2]; exact HR, hG⟩
      | false =>
        have hl := HLP.out
        unfold loopQ at hl
        rw [if_neg (by simp)] at hl
        obtain ⟨⟨q, r2⟩, hx, hl⟩ := Option.bind_eq_some_iff.1 hl
        have kq := questc HR hs hx
        have hb := HBD.out rfl
        have HL := Lib.hid hl
        clear hl hx
        go_wp2_with fail
        refine kq.mono ?_
        rintro e w2 ⟨rfl, H2, G2⟩
        have hne := own_ne hown HR.blk (by decide)
        have hown2 := own_other hown G2 (.inr (Ne.symm hne))
        replace G2 := hG.trans G2
        have s2 := G2.size
        have Bz : ∀ o, Below w2.heap.size w2 (w2.alloc o) := fun o => (Below.refl _ _).alloc (Nat.le_refl _) o
        clear kq hown HR hG
        go_wp2_with (at_builtin; refine app_elem w.heap.size rfl _ _ 24 40 (.agg #[.string ⟨#[]⟩, .int .i64 0, .int .i64 0]) 3 32 rfl Try.underlying24 info_Q rfl (by decide) hown2 (cellQ q) rfl rfl rfl ?h1 s2 ?hn ?hl ?_)
        case h1 => exact ⟨rfl, rfl, rfl⟩
        case hn => omega
        case hl => omega
        intro v3 w3 hown3 hg3
        have H2a := H2.below (Bz (.cells (cellQ q) 40))
        have hown2a := own_other hown2 (grown_below (Bz (.cells (cellQ q) 40)) none) (by cases u7.ownBlock <;> simp)
        have hne2 := own_ne hown2a H2a.blk (by decide)
        have H3 : RdAt w3 g s r2 := ⟨blk_grown H2a.blk hg3 hne2⟩
        have G3 := grown_own (grown_alloc' G2 (.cells (cellQ q) 40)) hg3 (fun b e => Sl.own_base hown2 b e)
        go_wp2
        go_roundg (m + 1)
        case measure => omega
        case rel =>
          refine ⟨m, r2, acc ++ [q], ?_, rfl, by omega, HL.out, H3, ?_, G3, by simp; omega, fun _ => by simp; omega⟩
          · first | rfl | (congr 1; omega)
          · rw [cellsQ_app]; simpa [cellsQ] using hown3
end

theorem info_R : (Try.prog.info? 53).map (fun i => (i.zero, i.size, i.bytes)) = some (some (.agg #[.string ⟨#[]⟩, .int .i64 0, .int .i64 0, .int .i64 0, .string ⟨#[]⟩]), 5, 56) := by kernel_rfl
abbrev cellR (q : Rr) : Array Value := #[.string q.name, .int .i64 q.type, .int .i64 q.cls, .int .i64 q.ttl, .string q.data]
def cellsR : List Rr → List Value
  | [] => []
  | q :: qs => (cellR q).toList ++ cellsR qs
theorem cellsR_app (a b : List Rr) : cellsR (a ++ b) = cellsR a ++ cellsR b := by
  induction a with
  | nil => rfl
  | cons p a ih => simp [cellsR, ih]
def loopR (k : Nat) (s : ByteArray) : Nat → Rs → List Rr → Option (List Rr × Rs)
  | 0, r, acc => some (acc, r)
  | n + 1, r, acc => if r.bad then some (acc, r) else (recV k s r).bind fun x => loopR k s n x.2 (acc ++ [x.1])
/-- So many that are read. -/
def listR (k : Nat) (s : ByteArray) (n : Nat) (r : Rs) : Option (List Rr × Rs) := loopR k s n ⟨r.at_, r.bad || decide (64 < n)⟩ []
section
variable {w : World} {g : Nat} {s : ByteArray} {r : Rs}
set_option maxHeartbeats 4000000 in
set_option maxRecDepth 100000 in
theorem listRc (H : RdAt w g s r) (hs : s.size ≤ 4096) (n : Nat) (hn : n ≤ 65535) {k : Nat} {out : List Rr} {r' : Rs} (hq : listR k s n r = some (out, r')) :
    Calls Try.prog 67 #[.pointer (some ⟨g, 0, none⟩), .int .i64 (n : Int), .func (.func 68) #[] #[]] w fun e w' => ∃ v, e = .returned v ∧ w'.ownsRow w.heap.size 53 5 v out.length (cellsR out) ∧ RdAt w' g s r' ∧ w.grownBy w' (some g) := by
  have hglt := blk_lt H.blk
  obtain ⟨ra, rb⟩ := r
  have hblk := H.blk
  dsimp only at hblk
  have c2 : w.cell? ⟨g, 2, none⟩ = some (.bool rb) := (blk_cell hblk 2).trans rfl
  have f2 := blk_frozen hblk 2
  obtain ⟨b1, hb1⟩ : ∃ b, (rb || decide (64 < n)) = b := ⟨_, rfl⟩
  have h1 : RdAt (w.setCell ⟨g, 2, none⟩ (.bool b1)) g s ⟨ra, b1⟩ := ⟨blk_put hblk 2 _ rfl⟩
  have G1 := grown_set w g 2 (.bool b1)
  unfold listR at hq
  dsimp only at hq
  rw [hb1] at hq
  have hsz1 : (w.setCell ⟨g, 2, none⟩ (.bool b1)).heap.size = w.heap.size := by simp [World.setCell]
  have hacc : b1 = false → n ≤ 64 := by
    intro e
    rw [e] at hb1
    cases rb <;> simp at hb1
    omega
  have hw : rb = true ∧ b1 = true ∨ rb = false ∧ 64 < n ∧ b1 = true ∨ rb = false ∧ ¬ 64 < n ∧ b1 = false := by
    cases rb with
    | true => exact .inl ⟨rfl, by simpa using hb1.symm⟩
    | false =>
      by_cases h : 64 < n
      · exact .inr (.inl ⟨rfl, h, by rw [← hb1]; simp [h]⟩)
      · exact .inr (.inr ⟨rfl, h, by rw [← hb1]; simp; omega⟩)
  have HQ := Lib.hid hq
  have HACC := Lib.hid hacc
  have HW := Lib.hid hw
  clear hq hacc hb1 hw
  go_enter Try.func67, Try.ntmps67
  go_upto_region 1 with (fail)
  go_cut [16] (fun v16 wc => wc = w.setCell ⟨g, 2, none⟩ (.bool b1))
  case first =>
    rcases HW.out with ⟨e1, e2⟩ | ⟨e1, h64, e2⟩ | ⟨e1, h64, e2⟩
    · subst e1; subst e2
      go_wp2
      go_meet
      case rel => rfl
    · subst e1; subst e2
      have qn : decide ((64 : Int) < (n : Int)) = true := by simp; omega
      go_wp2
      go_meet
      case rel => rfl
    · subst e1; subst e2
      have qn : decide ((64 : Int) < (n : Int)) = false := by simp; omega
      go_wp2
      go_meet
      case rel => rfl
  case rest =>
  subst hcut
  generalize w.setCell ⟨g, 2, none⟩ (.bool b1) = w1 at *
  clear c2 f2 hblk H
  go_wp2_with fail
  go_loopg [1, 7] (n + 1) (fun kk v1 v7 wr => ∃ (m : Nat) (rr : Rs) (acc : List Rr), v1 = .int .i64 (m : Int) ∧ kk = m + 1 ∧ m ≤ n ∧ loopR k s m rr acc = some (out, r') ∧ RdAt wr g s rr ∧ wr.ownsRow w.heap.size 53 5 v7 acc.length (cellsR acc) ∧ w.grownBy wr (some g) ∧ acc.length ≤ 64 ∧ (rr.bad = false → acc.length + m ≤ 64))
  case atStart => exact ⟨n, ⟨ra, b1⟩, [], rfl, rfl, Nat.le_refl _, HQ.out, h1, own_nil _ _ _ _, G1, by simp, fun e => by have := HACC.out e; simpa using this⟩
  case round =>
    obtain ⟨m, rr, acc, rfl, hkk, hmn, hlp, HR, hown, hG, hal, hbd⟩ := hrel
    have HLP := Lib.hid hlp
    have HBD := Lib.hid hbd
    clear hlp hbd
    obtain ⟨ra2, rb2⟩ := rr
    have c2 : wr.cell? ⟨g, 2, none⟩ = some (.bool rb2) := (blk_cell HR.blk 2).trans rfl
    have hsz := hG.size
    cases m with
    | zero =>
      have q0 : decide ((0 : Int) < ((0 : Nat) : Int)) = false := by decide
      have hl := HLP.out
      unfold loopR at hl
      injection hl with hl
      injection hl with e1 e2
      go_wp2
      go_ret
      exact ⟨_, rfl, by rw [← e1]; exact hown, by rw [← e2]; exact HR, hG⟩
    | succ m =>
      have q0 : decide ((0 : Int) < ((m + 1 : Nat) : Int)) = true := by simp
      cases rb2 with
      | true =>
        have hl := HLP.out
        unfold loopR at hl
        rw [if_pos rfl] at hl
        injection hl with hl
        injection hl with e1 e2
        go_wp2
        go_ret
        exact ⟨_, rfl, by rw [← e1]; exact hown, by rw [← e2]; exact HR, hG⟩
      | false =>
        have hl := HLP.out
        unfold loopR at hl
        rw [if_neg (by simp)] at hl
        obtain ⟨⟨q, r2⟩, hx, hl⟩ := Option.bind_eq_some_iff.1 hl
        have kq := recc HR hs hx
        have hb := HBD.out rfl
        have HL := Lib.hid hl
        clear hl hx
        go_wp2_with fail
        refine kq.mono ?_
        rintro e w2 ⟨rfl, H2, G2⟩
        have hne := own_ne hown HR.blk (by decide)
        have hown2 := own_other hown G2 (.inr (Ne.symm hne))
        replace G2 := hG.trans G2
        have s2 := G2.size
        have Bz : ∀ o, Below w2.heap.size w2 (w2.alloc o) := fun o => (Below.refl _ _).alloc (Nat.le_refl _) o
        clear kq hown HR hG
        go_wp2_with (at_builtin; refine app_elem w.heap.size rfl _ _ 25 53 (.agg #[.string ⟨#[]⟩, .int .i64 0, .int .i64 0, .int .i64 0, .string ⟨#[]⟩]) 5 56 rfl Try.underlying25 info_R rfl (by decide) hown2 (cellR q) rfl rfl rfl ?h1 s2 ?hn ?hl ?_)
        case h1 => exact ⟨rfl, rfl, rfl, rfl, rfl⟩
        case hn => omega
        case hl => omega
        intro v3 w3 hown3 hg3
        have H2a := H2.below (Bz (.cells (cellR q) 53))
        have hown2a := own_other hown2 (grown_below (Bz (.cells (cellR q) 53)) none) (by cases u7.ownBlock <;> simp)
        have hne2 := own_ne hown2a H2a.blk (by decide)
        have H3 : RdAt w3 g s r2 := ⟨blk_grown H2a.blk hg3 hne2⟩
        have G3 := grown_own (grown_alloc' G2 (.cells (cellR q) 53)) hg3 (fun b e => Sl.own_base hown2 b e)
        go_wp2
        go_roundg (m + 1)
        case measure => omega
        case rel =>
          refine ⟨m, r2, acc ++ [q], ?_, rfl, by omega, HL.out, H3, ?_, G3, by simp; omega, fun _ => by simp; omega⟩
          · first | rfl | (congr 1; omega)
          · rw [cellsR_app]; simpa [cellsR] using hown3
end
end Go.Proofs.Ytjklgdpffmaamaa.Wm

namespace Go.Proofs.Ytjklgdpffmaamaa.Pu
open Go.RowKit Go.Proofs.YtjklgdpffmaamaaW.PrintWords
set_option linter.unusedVariables false

/-! ### whole numbers -/
theorem w64 {x : Int} (h0 : -9223372036854775808 ≤ x) (h1 : x ≤ 9223372036854775807) : wrap64 x = x := by unfold wrap64; omega
theorem wraps_i64 (n : Int) (h0 : 0 ≤ n) (h1 : n < 2 ^ 63) : IntKind.i64.wrap n = n := by
  rw [IntKind.wrap_i64]; omega
theorem or_shl (k : Nat) (hk : k ≤ 62) (a b : Int) (ha : 0 ≤ a) (hb : 0 ≤ b) (hb' : b < 2 ^ k) (hs : a * 2 ^ k + b < 2 ^ 63) : Go.bits .or .i64 (a * 2 ^ k) b = a * 2 ^ k + b := by
  have hp : (0 : Int) < 2 ^ k := by exact_mod_cast Nat.two_pow_pos k
  have h1 : 0 ≤ a * 2 ^ k := Int.mul_nonneg ha (by omega)
  have h2 : (2 : Int) ^ k ≤ 2 ^ 62 := by exact_mod_cast Nat.pow_le_pow_right (by decide) hk
  refine bits_join .i64 63 (by decide) wraps_i64 k (a * 2 ^ k) b h1 (Int.mul_emod_left _ _) (by omega) hb (by exact_mod_cast hb') (by omega)
theorem or_shl8 (a b : Int) (ha : 0 ≤ a) (ha' : a ≤ 36028797018963967) (hb : 0 ≤ b) (hb' : b ≤ 255) : Go.bits .or .i64 (a * 256) b = a * 256 + b :=
  bits_join .i64 63 (by decide) wraps_i64 8 (a * 256) b (by omega) (by omega) (by omega) hb (by omega) (by omega)
theorem and_mask (i : Nat) (hi : i ≤ 63) (x : Int) : Go.bits .and .i64 x (2 ^ i - 1) = x % 2 ^ i := by
  have hpos : 0 < 2 ^ i := Nat.two_pow_pos i
  have hle : 2 ^ i ≤ 2 ^ 63 := Nat.pow_le_pow_right (by decide) hi
  have hc : ((2 : Int) ^ i - 1) = ((2 ^ i - 1 : Nat) : Int) := by rw [Int.natCast_sub hpos]; simp
  have hm : (2 ^ i - 1) % 2 ^ 64 = 2 ^ i - 1 := Nat.mod_eq_of_lt (by omega)
  have hx : (BitVec.ofInt 64 x).toNat = (x % 18446744073709551616).toNat := by simp [BitVec.toNat_ofInt]
  have e : ((x % 18446744073709551616).toNat : Int) = x % 18446744073709551616 := by omega
  have hd : (2 : Int) ^ i ∣ 18446744073709551616 := by
    have : (18446744073709551616 : Int) = 2 ^ i * 2 ^ (64 - i) := by rw [← Int.pow_add]; rw [show i + (64 - i) = 64 by omega]; decide
    exact ⟨_, this⟩
  rw [hc]
  show IntKind.i64.wrap (((BitVec.ofInt 64 x &&& BitVec.ofInt 64 ((2 ^ i - 1 : Nat) : Int)).toNat : Nat) : Int) = _
  rw [BitVec.toNat_and, BitVec.ofInt_natCast, BitVec.toNat_ofNat, hm, hx, Nat.and_two_pow_sub_one_eq_mod]
  have e2 : (((x % 18446744073709551616).toNat % 2 ^ i : Nat) : Int) = x % 2 ^ i := by
    rw [Int.natCast_emod, e]; push_cast
    exact Int.emod_emod_of_dvd _ hd
  rw [e2]
  have h2 : (0 : Int) < 2 ^ i := by exact_mod_cast hpos
  have h3 : (2 : Int) ^ i ≤ 2 ^ 63 := by exact_mod_cast hle
  have := Int.emod_nonneg x (Int.ne_of_gt h2)
  have := Int.emod_lt_of_pos x h2
  exact wraps_i64 _ (by assumption) (by omega)
theorem and_1 (x : Int) : Go.bits .and .i64 x 1 = x % 2 := and_mask 1 (by decide) x
theorem and_63 (x : Int) : Go.bits .and .i64 x 63 = x % 64 := and_mask 6 (by decide) x
/-! ### lists -/
/-! ### strings as bytes -/
theorem data_length (s : ByteArray) : s.data.toList.length = s.size := by rw [Array.length_toList]; rfl
theorem ext_data {a b : ByteArray} (h : a.data.toList = b.data.toList) : a = b := ByteArray.ext (Array.ext' h)
theorem bytesOf_inj {a b : ByteArray} (h : bytesOf a = bytesOf b) : a = b := by
  apply ext_data
  unfold bytesOf at h
  refine List.map_inj_right (f := fun b : UInt8 => (b.toNat : Int)) (fun x y e => ?_) |>.1 h
  exact UInt8.toNat_inj.1 (by exact_mod_cast e)
theorem bytesOf_append (a b : ByteArray) : bytesOf (a ++ b) = bytesOf a ++ bytesOf b := by
  unfold bytesOf; rw [ByteArray.data_append, Array.toList_append, List.map_append]
theorem byte_range {s : ByteArray} {x : Int} (h : x ∈ bytesOf s) : 0 ≤ x ∧ x ≤ 255 := by
  unfold bytesOf at h
  obtain ⟨b, _, rfl⟩ := List.mem_map.1 h
  have := b.toNat_lt
  omega
theorem bytesOf_nums {xs : List Int} (h : ∀ x ∈ xs, 0 ≤ x ∧ x ≤ 255) : bytesOf (strOfNums xs) = xs := by
  unfold bytesOf
  rw [Go.strOfNums_data, List.map_map]
  conv => rhs; rw [← List.map_id xs]
  refine List.map_congr_left fun x hx => ?_
  have := h x hx
  simp only [Function.comp_apply, UInt8.toNat_ofNat', id]
  omega
theorem nums_bytesOf (s : ByteArray) : strOfNums (bytesOf s) = s := bytesOf_inj (bytesOf_nums fun _ h => byte_range h)
theorem bt_bytes (s : ByteArray) (i : Nat) : bt s (i : Int) = (bytesOf s).getD i 0 := by
  unfold bt bytesOf
  rw [List.getD_eq_getElem?_getD, List.getElem?_map]
  split
  · rename_i h
    have h' : i < s.size := by simpa using h
    rw [List.getElem?_eq_getElem (by rw [data_length]; exact h')]
    simp
    rfl
  · rename_i h
    have h' : ¬ i < s.size := by simpa using h
    rw [List.getElem?_eq_none (by rw [data_length]; omega)]
    rfl
/-! ### from some number of rounds on -/
section
variable {α β : Type} {r : α}
theorem Ev.pos {c : Prop} [Decidable c] {f g : Nat → Option α} (h : c) (k : Ev f r) : Ev (fun n => if c then f n else g n) r := by
  simp only [if_pos h]; exact k
theorem Ev.neg {c : Prop} [Decidable c] {f g : Nat → Option α} (h : ¬ c) (k : Ev g r) : Ev (fun n => if c then f n else g n) r := by
  simp only [if_neg h]; exact k
theorem Ev.some (f : Nat → Option α) (h : ∀ n, f n = some r) : Ev f r := ⟨0, fun n _ => h n⟩
/-- A call that needs no rounds. -/
theorem Ev.call {g : Option β} {f : Nat → β → Option α} {a : β} (h : g = Option.some a) (k : Ev (fun n => f n a) r) : Ev (fun n => g.bind (f n)) r := by
  subst h; exact k
end
end Go.Proofs.Ytjklgdpffmaamaa.Pu

namespace Go.Proofs.Ytjklgdpffmaamaa.Wm
open Go.RowKit Go.PlainAid Go.Maps Go.Proofs.Ytjklgdpffmaamaa.Base Go.Proofs.Ytjklgdpffmaamaa.Oct Go.Proofs.Ytjklgdpffmaamaa.Nm Go.Proofs.Ytjklgdpffmaamaa.Wr
open Go.Proofs.YtjklgdpffmaamaaW.PrintWords (blk_cell blk_below blk_put blk_frozen blk_ne own_typed own_setCell own_ne bytesOf bytesOf_length blk_lt)
set_option linter.unusedVariables false
/-- What has been written, what is kept, whether something was too long. -/
structure St where
  S : ByteArray
  m : ByteArray → Option Int
  lg : Bool
def rawSt (st : St) (s : ByteArray) : St := if 4096 < st.S.size + s.size then ⟨st.S, st.m, true⟩ else ⟨st.S ++ s, st.m, st.lg⟩
def nameSt (st : St) (n : ByteArray) : St := if nameB n then (if 4096 < st.S.size + (outN st.m n).size then ⟨st.S, st.m, true⟩ else ⟨st.S ++ outN st.m n, putN st.m n st.S.size, st.lg⟩) else ⟨st.S, st.m, true⟩
def qSt (st : St) (n : ByteArray) (t c : Int) : St := rawSt (nameSt st n) (p16 t ++ p16 c)
structure Ww (base : Nat) (w : World) (gw g gm : Nat) (st : St) : Prop where
  gb : base ≤ gw
  blk : w.heap[gw]? = some (.cells #[ptr g, .bool st.lg] 111 (0, 0))
  wr : ∃ v, Wr base w g gm v (bytesOf st.S) st.m
/-- What a call on wire's writer leaves as it was. -/
structure Kw (w w' : World) (gw g gm : Nat) : Prop where
  size : w.heap.size ≤ w'.heap.size
  block : ∀ k, k < w.heap.size → k ≠ gw → k ≠ g → k ≠ gm → (∀ cs, w.heap[k]? ≠ some (.cells cs 5 (0, 0))) → w'.heap[k]? = w.heap[k]?
section
variable {base gw g gm : Nat} {w w' w1 : World} {st : St} {v : Value} {m : ByteArray → Option Int} {xs : List Int}
theorem Kw.refl (w : World) (gw g gm : Nat) : Kw w w gw g gm := ⟨Nat.le_refl _, fun _ _ _ _ _ _ => rfl⟩
theorem Kw.below (hb : Below w.heap.size w w') : Kw w w' gw g gm := ⟨hb.size, fun k hk _ _ _ _ => hb.block k hk⟩
theorem Kw.trans (h : Kw w w1 gw g gm) (k : Kw w1 w' gw g gm) : Kw w w' gw g gm :=
  ⟨Nat.le_trans h.size k.size, fun i hi a b c d => by
    have e := h.block i hi a b c d
    exact (k.block i (Nat.lt_of_lt_of_le hi h.size) a b c (fun cs => by rw [e]; exact d cs)).trans e⟩
theorem Ww.below (H : Ww base w gw g gm st) (hb : Below w.heap.size w w') : Ww base w' gw g gm st := by
  obtain ⟨v, h⟩ := H.wr
  exact ⟨H.gb, blk_below H.blk hb, v, h.below hb⟩
theorem Ww.base_le (H : Ww base w gw g gm st) : base ≤ w.heap.size := Nat.le_trans H.gb (Nat.le_of_lt (blk_lt H.blk))
theorem Kp.kw (K : Kp w w' g gm) : Kw w w' gw g gm := ⟨K.size, fun k hk _ b c d => K.block k hk b c d⟩
theorem Wr.map_blk (H : Wr base w g gm v xs m) : ∃ es c, w.heap[gm]? = some (.map es c) := by
  obtain ⟨n, D, hn, ⟨es, clock, hb, F⟩, ht⟩ := H.map
  exact ⟨es, clock, hb⟩
/-- The box of wire's writer, behind a call on the writer within. -/
theorem Ww.box (H : Ww base w gw g gm st) (K : Kp w w' g gm) : w'.heap[gw]? = some (.cells #[ptr g, .bool st.lg] 111 (0, 0)) := by
  obtain ⟨v, h⟩ := H.wr
  obtain ⟨es, c, hm⟩ := Wr.map_blk h
  rw [K.block gw (blk_lt H.blk) (blk_ne H.blk h.blk (by decide)) ?_ ?_, H.blk]
  · rintro rfl; rw [H.blk] at hm; cases hm
  · intro cs q; rw [H.blk] at q; injection q with q; injection q with _ q; exact absurd q (by decide)
/-- The flag is written: all else stays. -/
theorem flagged {lg : Bool} (hb : base ≤ gw) (hblk : w.heap[gw]? = some (.cells #[ptr g, .bool lg] 111 (0, 0))) (h : Wr base w g gm v xs m) (b : Bool) :
    (w.setCell ⟨gw, 1, none⟩ (.bool b)).heap[gw]? = some (.cells #[ptr g, .bool b] 111 (0, 0)) ∧ Wr base (w.setCell ⟨gw, 1, none⟩ (.bool b)) g gm v xs m ∧ Below base w (w.setCell ⟨gw, 1, none⟩ (.bool b)) ∧ Kw w (w.setCell ⟨gw, 1, none⟩ (.bool b)) gw g gm := by
  have hs : ∀ k, k ≠ gw → (w.setCell ⟨gw, 1, none⟩ (.bool b)).heap[k]? = w.heap[k]? := fun k hk => Below.heap_setCell w _ _ k hk
  obtain ⟨es, c, hm⟩ := Wr.map_blk h
  refine ⟨blk_put hblk 1 _ rfl, ?_, (Below.refl base w).setCell hb _, ⟨by simp [World.setCell], fun k hk a _ _ _ => hs k a⟩⟩
  obtain ⟨n, D, hn, hmm, ht⟩ := h.map
  refine ⟨h.gb, h.mb, (hs g (blk_ne h.blk hblk (by decide))).trans h.blk, own_setCell h.own (own_ne h.own hblk (by decide)) _, ⟨n, D, hn, hmm.setCell ?_ _, ht⟩, h.len⟩
  rintro rfl; rw [hblk] at hm; cases hm
theorem rawLong0 (H : Wr base w g gm v (bytesOf st.S) m) (s : ByteArray) (hl : 4096 < st.S.size + s.size) :
    Calls Try.prog 90 #[ptr g, .string s] w fun e w' => e = .returned (.int .i64 501) ∧ w' = w := by
  have c0 : w.cell? ⟨g, 0, none⟩ = some v := (blk_cell H.blk 0).trans rfl
  have hx := H.len
  rw [bytesOf_length] at hx
  obtain ⟨A, c, rfl⟩ := Sl.own_slice H.own
  rw [bytesOf_length] at c0
  have q : decide (4096 - (st.S.size : Int) < (s.size : Int)) = true := by simp; omega
  go_enter Try.func90, Try.ntmps90
  go_wp2
  go_ret
  exact ⟨rfl, rfl⟩
theorem rawc (H : Ww base w gw g gm st) (s : ByteArray) : Calls Try.prog 59 #[ptr gw, .string s] w fun e w' => e = .returned (.tuple #[]) ∧ Ww base w' gw g gm (rawSt st s) ∧ Below base w w' ∧ Kw w w' gw g gm := by
  have c0 : w.cell? ⟨gw, 0, none⟩ = some (ptr g) := (blk_cell H.blk 0).trans rfl
  obtain ⟨v, h⟩ := H.wr
  have hlen := h.len
  rw [bytesOf_length] at hlen
  by_cases hl : 4096 < st.S.size + s.size
  · have f1 := blk_frozen H.blk 1
    have c1 : w.cell? ⟨gw, 1, none⟩ = some (.bool st.lg) := (blk_cell H.blk 1).trans rfl
    have F := flagged H.gb H.blk h true
    have e : rawSt st s = ⟨st.S, st.m, true⟩ := if_pos hl
    rw [e]
    go_enter Try.func59, Try.ntmps59
    go_wp2_with fail
    refine (rawLong0 h s hl).mono ?_
    rintro e w1 ⟨rfl, rfl⟩
    go_wp2
    refine bodyPost_end (results_none rfl _ _ _) rfl ?_
    exact ⟨rfl, ⟨H.gb, F.1, v, F.2.1⟩, F.2.2.1, F.2.2.2⟩
  · have e : rawSt st s = ⟨st.S ++ s, st.m, st.lg⟩ := if_neg hl
    rw [e]
    go_enter Try.func59, Try.ntmps59
    go_wp2_with fail
    refine (rawOk h s (by omega) (by rw [bytesOf_length]; omega)).mono ?_
    rintro e w1 ⟨rfl, v1, h1, B1, K1⟩
    have b1 := H.box K1
    have c1 : w1.cell? ⟨gw, 1, none⟩ = some (.bool st.lg) := (blk_cell b1 1).trans rfl
    have f1 := blk_frozen b1 1
    have F := flagged H.gb b1 h1 st.lg
    rw [← Pu.bytesOf_append] at F
    go_wp2
    refine bodyPost_end (results_none rfl _ _ _) rfl ?_
    exact ⟨rfl, ⟨H.gb, F.1, v1, F.2.1⟩, B1.trans F.2.2.1, (Kp.kw K1).trans F.2.2.2⟩
set_option maxHeartbeats 2000000 in
theorem namec (H : Ww base w gw g gm st) (n : ByteArray) (t c : Int) : Calls Try.prog 60 #[ptr gw, .string n, .int .i64 t, .int .i64 c] w fun e w' => e = .returned (.tuple #[]) ∧ Ww base w' gw g gm (qSt st n t c) ∧ Below base w w' ∧ Kw w w' gw g gm := by
  have c0 : w.cell? ⟨gw, 0, none⟩ = some (ptr g) := (blk_cell H.blk 0).trans rfl
  have hbase := H.base_le
  go_enter Try.func60, Try.ntmps60
  go_upto_region 0 with (fail)
  go_cut [21] (fun v21 wc => Ww base wc gw g gm (nameSt st n) ∧ Below base w wc ∧ Kw w wc gw g gm)
  case first =>
    obtain ⟨v, h⟩ := H.wr
    have hlen := h.len
    rw [bytesOf_length] at hlen
    cases hn : nameB n with
    | false =>
      have HE := Lib.hid (show nameSt st n = ⟨st.S, st.m, true⟩ from by unfold nameSt; rw [hn]; rfl)
      go_wp2_with fail
      refine (nameNo h n hn).mono ?_
      rintro e w1 ⟨rfl, h1, B1, K1⟩
      have b1 := H.box K1
      have c1 : w1.cell? ⟨gw, 1, none⟩ = some (.bool st.lg) := (blk_cell b1 1).trans rfl
      have f1 := blk_frozen b1 1
      have F := flagged H.gb b1 h1 true
      go_wp2
      go_meet
      case rel => exact ⟨by rw [HE.out]; exact ⟨H.gb, F.1, v, F.2.1⟩, B1.trans F.2.2.1, (Kp.kw K1).trans F.2.2.2⟩
    | true =>
      by_cases hl : 4096 < st.S.size + (outN st.m n).size
      · have HE := Lib.hid (show nameSt st n = ⟨st.S, st.m, true⟩ from by unfold nameSt; rw [hn, if_pos rfl, if_pos hl])
        go_wp2_with fail
        refine (nameYes h n hn).mono ?_
        rintro e w1 hh
        rw [bytesOf_length, if_pos hl] at hh
        obtain ⟨rfl, h1, B1, K1⟩ := hh
        have b1 := H.box K1
        have c1 : w1.cell? ⟨gw, 1, none⟩ = some (.bool st.lg) := (blk_cell b1 1).trans rfl
        have f1 := blk_frozen b1 1
        have F := flagged H.gb b1 h1 true
        go_wp2
        go_meet
        case rel => exact ⟨by rw [HE.out]; exact ⟨H.gb, F.1, v, F.2.1⟩, B1.trans F.2.2.1, (Kp.kw K1).trans F.2.2.2⟩
      · have HE := Lib.hid (show nameSt st n = ⟨st.S ++ outN st.m n, putN st.m n st.S.size, st.lg⟩ from by unfold nameSt; rw [hn, if_pos rfl, if_neg hl])
        go_wp2_with fail
        refine (nameYes h n hn).mono ?_
        rintro e w1 hh
        rw [bytesOf_length, if_neg hl] at hh
        obtain ⟨rfl, v1, h1, B1, K1⟩ := hh
        rw [← Pu.bytesOf_append] at h1
        have b1 := H.box K1
        have c1 : w1.cell? ⟨gw, 1, none⟩ = some (.bool st.lg) := (blk_cell b1 1).trans rfl
        have f1 := blk_frozen b1 1
        have F := flagged H.gb b1 h1 st.lg
        go_wp2
        go_meet
        case rel => exact ⟨by rw [HE.out]; exact ⟨H.gb, F.1, v1, F.2.1⟩, B1.trans F.2.2.1, (Kp.kw K1).trans F.2.2.2⟩
  case rest =>
  obtain ⟨H1, B1, K1⟩ := hcut
  have s1 := Nat.le_trans hbase B1.size
  go_wp2_with fail
  refine (put16 t _).mono ?_
  rintro e w2 ⟨rfl, B2⟩
  have H2 := H1.below B2
  have s2 := B2.size
  go_wp2_with fail
  refine (put16 c _).mono ?_
  rintro e w3 ⟨rfl, B3⟩
  have H3 := H2.below B3
  have z1 := p16_size t
  have z2 := p16_size c
  have n1 : ¬ 9223372036854775807 < (p16 t).size + (p16 c).size := by omega
  go_wp2_with fail
  refine (rawc H3 (p16 t ++ p16 c)).mono ?_
  rintro e w4 ⟨rfl, H4, B4, K4⟩
  go_wp2
  refine bodyPost_end (results_none rfl _ _ _) rfl ?_
  exact ⟨rfl, H4, ((B1.trans (B2.mono s1)).trans (B3.mono (Nat.le_trans s1 s2))).trans B4, ((K1.trans (Kw.below B2)).trans (Kw.below B3)).trans K4⟩
end
end Go.Proofs.Ytjklgdpffmaamaa.Wm

namespace Go.Proofs.Ytjklgdpffmaamaa.Wm
open Go.RowKit Go.PlainAid Go.Maps Go.Proofs.Ytjklgdpffmaamaa.Base Go.Proofs.Ytjklgdpffmaamaa.Oct Go.Proofs.Ytjklgdpffmaamaa.Nm Go.Proofs.Ytjklgdpffmaamaa.Wr
open Go.Proofs.YtjklgdpffmaamaaW.PrintWords (blk_cell blk_below blk_put blk_frozen blk_ne blk_new blk_lt)
set_option linter.unusedVariables false
def qStep (st : St) (q : Qn) : St := qSt st q.name q.type q.cls
def rSt (st : St) (r : Rr) : St := rawSt (qSt st r.name r.type r.cls) (p32 r.ttl ++ p16 (r.data.size : Int) ++ r.data)
def st0 (hS : ByteArray) : St := rawSt ⟨⟨#[]⟩, fun _ => none, false⟩ hS
def putSt (hS : ByteArray) (qs : List Qn) (an ns ar : List Rr) : St := ar.foldl rSt (ns.foldl rSt (an.foldl rSt (qs.foldl qStep (st0 hS))))
def hOk (m : MsgV) : Bool := Hd.mayB m.h m.qs.length m.an.length m.ns.length m.ar.length
def hStr (m : MsgV) : ByteArray := Hd.wroteS m.h m.qs.length m.an.length m.ns.length m.ar.length
def putOk (m : MsgV) : Bool := hOk m && fitsB m.qs m.an m.ns m.ar
def putEnd (m : MsgV) : St := putSt (hStr m) m.qs m.an m.ns m.ar
def putS (m : MsgV) : ByteArray := if putOk m then (if (putEnd m).lg then ⟨#[]⟩ else (putEnd m).S) else ⟨#[]⟩
def putE (m : MsgV) : Int := if putOk m then (if (putEnd m).lg then 701 else 0) else 700
theorem fits_len {qs : List Qn} {an ns ar : List Rr} (h : fitsB qs an ns ar = true) : qs.length ≤ 64 ∧ an.length ≤ 64 ∧ ns.length ≤ 64 ∧ ar.length ≤ 64 := by
  simp only [fitsB, Bool.and_eq_true, decide_eq_true_eq] at h
  obtain ⟨⟨⟨⟨a, _⟩, b, _⟩, c, _⟩, d, _⟩ := h
  exact ⟨a, b, c, d⟩
theorem take_fold {α β : Type} (f : β → α → β) (b : β) (l : List α) (d : α) (j : Nat) (h : j < l.length) : (l.take (j + 1)).foldl f b = f ((l.take j).foldl f b) (l.getD j d) := by
  rw [List.take_succ_eq_append_getElem h, List.foldl_append, List.getD_eq_getElem?_getD, List.getElem?_eq_getElem h]; rfl
set_option maxHeartbeats 16000000 in
set_option maxRecDepth 100000 in
theorem putc (m : MsgV) (w : World) (hm : m.Lies w) : Calls Try.prog 34 #[.agg m.cells] w fun e w' => e = .returned (.tuple #[.string (putS m), .int .i64 (putE m)]) ∧ Below w.heap.size w w' := by
  have hrows := fun p hp => get_rows hm p hp
  have hsa := hm.sa
  have hmq := hm.q
  have hlq := hm.lq
  have hfit := fun b w hb (hl : m.Lies w) => fitsc m b w hb hl
  obtain ⟨M, hM⟩ : ∃ M, m = M := ⟨m, rfl⟩
  have hps : putS m = if hOk m && fitsB m.qs m.an m.ns m.ar then (if (putSt (hStr m) m.qs m.an m.ns m.ar).lg then ⟨#[]⟩ else (putSt (hStr m) m.qs m.an m.ns m.ar).S) else ⟨#[]⟩ := rfl
  have hpe : putE m = if hOk m && fitsB m.qs m.an m.ns m.ar then (if (putSt (hStr m) m.qs m.an m.ns m.ar).lg then 701 else 0) else 700 := rfl
  have hho : hOk m = Hd.mayB m.h m.qs.length m.an.length m.ns.length m.ar.length := rfl
  have hhs : hStr m = Hd.wroteS m.h m.qs.length m.an.length m.ns.length m.ar.length := rfl
  have B1 : Below w.heap.size w (w.alloc (.cells m.cells 27)) := (Below.refl _ _).alloc (Nat.le_refl _) _
  have b1 : (w.alloc (.cells m.cells 27)).heap[w.heap.size]? = some (.cells m.cells 27 (0, 0)) := blk_new _ _
  have L1 := hm.below B1
  have z1 : (w.alloc (.cells m.cells 27)).heap.size = w.heap.size + 1 := by simp
  generalize putS m = pS at *
  generalize putE m = pE at *
  generalize hOk m = pO at *
  generalize hStr m = pH at *
  clear hm
  rcases m with ⟨h, Aq, cq, qs, Aa, ca, an, An, cn, ns, Ar, cr, ar⟩
  have HPS := Lib.hid hps
  have HPE := Lib.hid hpe
  have HL1 := Lib.hid L1
  have HFIT := Lib.hid hfit
  clear hps hpe hM L1 hfit
  dsimp only [MsgV.cells] at *
  go_enter Try.func34, Try.ntmps34
  go_wp2_with fail
  refine (Hd.wrote h qs.length an.length ns.length ar.length _).mono ?_
  generalize (w.alloc (.cells #[.int .i64 h.id, .bool h.qr, .int .i64 h.op, .bool h.aa, .bool h.tc, .bool h.rd, .bool h.ra, .int .i64 h.z, .int .i64 h.rc, .slice Aq qs.length cq, .slice Aa an.length ca, .slice An ns.length cn, .slice Ar ar.length cr] 27)) = w0 at *
  rintro e w1 ⟨rfl, B2⟩
  have b2 := blk_below b1 B2
  have L2 := HL1.out.below B2
  replace B2 := B1.trans (B2.mono (by omega))
  have s2 := B2.size
  have hb0 := blk_lt b2
  rw [← hhs]
  have he : Hd.wroteE h qs.length an.length ns.length ar.length = if pO then 0 else 600 := by unfold Hd.wroteE; rw [hho]
  rw [he]
  clear he hhs hho B1 b1 z1
  cases pO with
  | false =>
    go_wp2_with fail
    go_ret2
    have e1 : pS = ⟨#[]⟩ := HPS.out
    have e2 : pE = 700 := HPE.out
    exact ⟨by rw [e1, e2]; rfl, B2⟩
  | true =>
    go_wp2_with fail
    refine (HFIT.out _ _ b2 L2).mono ?_
    rintro e w2 ⟨rfl, B3⟩
    have b3 := blk_below b2 B3
    have L3 := L2.below B3
    replace B3 := B2.trans (B3.mono s2)
    have s3 := B3.size
    have hb3 := blk_lt b3
    clear L2 b2 B2 s2 hb0 HFIT HL1
    cases hfb : fitsB qs an ns ar with
    | false =>
      have HFB := Lib.hid hfb
      clear hfb
      go_wp2_with fail
      go_ret2
      have e1 : pS = ⟨#[]⟩ := by have := HPS.out; rw [HFB.out] at this; exact this
      have e2 : pE = 700 := by have := HPE.out; rw [HFB.out] at this; exact this
      exact ⟨by rw [e1, e2]; rfl, B3⟩
    | true =>
      have e1 := HPS.out
      have e2 := HPE.out
      rw [hfb] at e1 e2
      have E1 := Lib.hid e1
      have E2 := Lib.hid e2
      clear e1 e2 HPS HPE
      go_wp2_with fail
      refine (newc w2).mono ?_
      rintro e w3 ⟨g, gm, rfl, B4, H4⟩
      go_wp2_with fail
      have Ba : Below w3.heap.size w3 (w3.alloc (.cells #[ptr g, .bool false] 111)) := (Below.refl _ _).alloc (Nat.le_refl _) _
      have W4 : Ww w2.heap.size (w3.alloc (.cells #[ptr g, .bool false] 111)) w3.heap.size g gm ⟨⟨#[]⟩, fun _ => none, false⟩ := ⟨B4.size, blk_new _ _, _, H4.below Ba⟩
      have B5 := B4.trans (Ba.mono B4.size)
      clear H4 Ba B4
      generalize w3.alloc (.cells #[ptr g, .bool false] 111) = w4 at *
      generalize w3.heap.size = gw at *
      refine (rawc W4 pH).mono ?_
      rintro e w5 ⟨rfl, W5, B6, -⟩
      replace B6 := B5.trans B6
      clear W4 B5
      have hmq2 := L3.q
      have hrow2 := fun p hp => get_rows L3 p hp
      dsimp only at hmq2 hrow2
      have c9 : w2.cell? ⟨w.heap.size, 9, none⟩ = some (.slice Aq qs.length cq) := (blk_cell b3 9).trans rfl
      have c10 : w2.cell? ⟨w.heap.size, 10, none⟩ = some (.slice Aa an.length ca) := (blk_cell b3 10).trans rfl
      have c11 : w2.cell? ⟨w.heap.size, 11, none⟩ = some (.slice An ns.length cn) := (blk_cell b3 11).trans rfl
      have c12 : w2.cell? ⟨w.heap.size, 12, none⟩ = some (.slice Ar ar.length cr) := (blk_cell b3 12).trans rfl
      have d9 := bcell B6 c9
      clear hrows hmq L3 b3 hsa
      have hfl := fits_len hfb
      have hql := hfl.1
      have HFL := Lib.hid hfl
      have HFB := Lib.hid hfb
      clear hfb hfl
      go_wp2_with fail
      go_loopg [47] (qs.length + 1) (fun k v47 wr => ∃ j : Nat, v47 = .int .i64 j ∧ j + k = qs.length + 1 ∧ j ≤ qs.length ∧ Ww w2.heap.size wr gw g gm ((qs.take j).foldl qStep (st0 pH)) ∧ Below w2.heap.size w2 wr)
      case atStart => exact ⟨0, rfl, by omega, by omega, W5, B6⟩
      case round =>
        obtain ⟨j, rfl, hk1, hk2, HW, B⟩ := hrel
        have hbs := HW.base_le
        by_cases hj : j < qs.length
        · have q0 : decide ((j : Int) < (qs.length : Int)) = true := by simp; omega
          obtain ⟨ad, eA, hat⟩ : ∃ ad, Aq = some ad ∧ ∀ j, j < qs.length → AtQ w2 (ad.add (j * 3)) (qs.getD j zQ) := by
            rcases hmq2 with h | h
            · omega
            · exact h
          subst eA
          have ha := (hat j hj).below B
          have hfo := take_fold qStep (st0 pH) qs zQ j hj
          generalize qs.getD j zQ = x at *
          have HFO := Lib.hid hfo
          clear hfo hat
          obtain ⟨f0, f1, f2⟩ := ha
          have Ba : Below wr.heap.size wr (wr.alloc (.cells #[.string x.name, .int .i64 x.type, .int .i64 x.cls] 40)) := (Below.refl _ _).alloc (Nat.le_refl _) _
          go_wp2_with fail
          refine (namec (HW.below Ba) x.name x.type x.cls).mono ?_
          rintro e w6 ⟨rfl, HW6, B7, -⟩
          go_wp2_with fail
          go_roundg (gk - 1)
          case measure => omega
          case rel => exact ⟨j + 1, rfl, by omega, by omega, by rw [HFO.out]; exact HW6, (B.trans (Ba.mono hbs)).trans B7⟩
        · have q0 : decide ((j : Int) < (qs.length : Int)) = false := by simp; omega
          have hst : (qs.take j).foldl qStep (st0 pH) = qs.foldl qStep (st0 pH) := by rw [List.take_of_length_le (by omega)]
          rw [hst] at HW
          clear hst
          generalize hs1 : qs.foldl qStep (st0 pH) = st1 at *
          have HS1 := Lib.hid hs1
          clear hs1
          have d10 := bcell B c10
          have d11 := bcell B c11
          have d12 := bcell B c12
          go_wp2_with fail
          clear d10 d11 d12 d9 c9 c10 c11 c12 hmq2
          go_loopg [67] 4 (fun k v67 wr => ∃ p : Nat, v67 = .int .i64 p ∧ p + k = 4 ∧ p ≤ 3 ∧ Ww w2.heap.size wr gw g gm (([an, ns, ar].take p).foldl (fun st l => l.foldl rSt st) st1) ∧ Below w2.heap.size w2 wr)
          case atStart => exact ⟨0, rfl, rfl, by omega, HW, B⟩
          case round =>
            obtain ⟨p, rfl, hp1, hp2, HW, B⟩ := hrel
            by_cases hp : p < 3
            · have q0 : decide ((p : Int) < 3) = true := by simp; omega
              obtain ⟨A, l, c, hix, hcl, hlc, hsm, hl⟩ := hrow2 p hp
              have hfo : ([an, ns, ar].take (p + 1)).foldl (fun st l => l.foldl rSt st) st1 = l.foldl rSt (([an, ns, ar].take p).foldl (fun st l => l.foldl rSt st) st1) := by
                rw [take_fold _ st1 [an, ns, ar] [] p hp, hl]
              have HFO := Lib.hid hfo
              have hll : l.length ≤ 64 := by
                have := HFL.out
                obtain rfl | rfl | rfl : p = 0 ∨ p = 1 ∨ p = 2 := by omega
                · rw [hl]; exact this.2.1
                · rw [hl]; exact this.2.2.1
                · rw [hl]; exact this.2.2.2
              clear hfo hl
              generalize hs2 : ([an, ns, ar].take p).foldl (fun st l => l.foldl rSt st) st1 = st2 at *
              have HS2 := Lib.hid hs2
              clear hs2
              go_wp2_with fail
              go_loopg [72] (l.length + 1) (fun k v72 wr => ∃ j : Nat, v72 = .int .i64 j ∧ j + k = l.length + 1 ∧ j ≤ l.length ∧ Ww w2.heap.size wr gw g gm ((l.take j).foldl rSt st2) ∧ Below w2.heap.size w2 wr)
              case atStart => exact ⟨0, rfl, by omega, by omega, HW, B⟩
              case round =>
                obtain ⟨j, rfl, hj1, hj2, HW, B⟩ := hrel
                have hbs := HW.base_le
                by_cases hj : j < l.length
                · have q2 : decide ((j : Int) < (l.length : Int)) = true := by simp; omega
                  obtain ⟨ad, eA, hat⟩ : ∃ ad, A = some ad ∧ ∀ j, j < l.length → AtR w2 (ad.add (j * 5)) (l.getD j zR) := by
                    rcases hcl with h | h
                    · omega
                    · exact h
                  subst eA
                  have ha := (hat j hj).below B
                  have hmem : l.getD j zR ∈ l := by rw [List.getD_eq_getElem?_getD, List.getElem?_eq_getElem hj]; exact List.getElem_mem hj
                  have hds := hsm _ hmem
                  have hfo := take_fold rSt st2 l zR j hj
                  generalize l.getD j zR = x at *
                  generalize hs3 : (l.take j).foldl rSt st2 = st3 at *
                  have HFO3 := Lib.hid hfo
                  have HS3 := Lib.hid hs3
                  clear hfo hat hs3 hmem
                  obtain ⟨f0, f1, f2, f3, f4⟩ := ha
                  have Ba : Below wr.heap.size wr (wr.alloc (.cells #[.string x.name, .int .i64 x.type, .int .i64 x.cls, .int .i64 x.ttl, .string x.data] 53)) := (Below.refl _ _).alloc (Nat.le_refl _) _
                  have ba := blk_new wr (.cells #[.string x.name, .int .i64 x.type, .int .i64 x.cls, .int .i64 x.ttl, .string x.data] 53)
                  have HWa := HW.below Ba
                  go_wp2_with fail
                  refine (namec HWa x.name x.type x.cls).mono ?_
                  rintro e w6 ⟨rfl, HW6, B7, K7⟩
                  have b6 : w6.heap[wr.heap.size]? = some (.cells #[.string x.name, .int .i64 x.type, .int .i64 x.cls, .int .i64 x.ttl, .string x.data] 53 (0, 0)) := by
                    obtain ⟨v, hv⟩ := HWa.wr
                    obtain ⟨es, c, hmp⟩ := Wr.map_blk hv
                    rw [K7.block _ (blk_lt ba) (blk_ne ba HWa.blk (by decide)) (blk_ne ba hv.blk (by decide)) ?_ ?_]
                    · exact ba
                    · intro q; rw [q, hmp] at ba; cases ba
                    · intro cs q; rw [ba] at q; injection q with q; injection q with _ q; exact absurd q (by decide)
                  have e3 : w6.cell? ⟨wr.heap.size, 3, none⟩ = some (.int .i64 x.ttl) := (blk_cell b6 3).trans rfl
                  have e4 : w6.cell? ⟨wr.heap.size, 4, none⟩ = some (.string x.data) := (blk_cell b6 4).trans rfl
                  have B8 := (B.trans (Ba.mono hbs)).trans B7
                  have s8 := B8.size
                  clear HWa ba Ba K7 B7 HW f0 f1 f2 f3 f4 b6 B hbs
                  have y1 := p32_size x.ttl
                  have y2 := p16_size (x.data.size : Int)
                  have n1 : ¬ 9223372036854775807 < (p32 x.ttl).size + (p16 (x.data.size : Int)).size := by omega
                  have n2 : ¬ 9223372036854775807 < (p32 x.ttl ++ p16 (x.data.size : Int)).size + x.data.size := by rw [ByteArray.size_append]; omega
                  have n3 : ¬ 9223372036854775807 < (p32 x.ttl).size + (p16 (x.data.size : Int)).size + x.data.size := by omega
                  have n4 : ¬ 9223372036854775807 < 4 + 2 + x.data.size := by omega
                  have n5 : ¬ 9223372036854775807 < 6 + x.data.size := by omega
                  have Hd6 := HW6.below (Below.refl _ w6).drew
                  have Bd6 := B8.drew
                  go_upto_region 18 with (fail)
                  go_region_with (first
                    | (go_at_call 61; refine (put32 _ _).mono ?_; rintro e w7 ⟨rfl, B9⟩; have H7 := Hd6.below B9; have g3 := bcell B9 e3; have g4 := bcell B9 e4; have s9 := B9.size)
                    | (go_at_call 62; refine (put16 _ _).mono ?_; rintro e w8 ⟨rfl, B10⟩; have H8 := H7.below B10; have g5 := bcell B10 g3; have g6 := bcell B10 g4)
                    | (go_at_call 59; refine (rawc H8 _).mono ?_; rintro e w9 ⟨rfl, H9, B11, -⟩))
                  all_goals
                    go_wp2_with fail
                    go_roundg (l.length - j)
                    case measure => omega
                    case rel => exact ⟨j + 1, rfl, by omega, by omega, by rw [HFO3.out]; exact H9, ((Bd6.trans (B9.mono s8)).trans (B10.mono (Nat.le_trans s8 s9))).trans B11⟩
                · have q2 : decide ((j : Int) < (l.length : Int)) = false := by simp; omega
                  have hst : (l.take j).foldl rSt st2 = l.foldl rSt st2 := by rw [List.take_of_length_le (by omega)]
                  rw [hst, ← HFO.out] at HW
                  clear hst
                  go_wp2_with fail
                  go_roundg (3 - p)
                  case measure => omega
                  case rel => exact ⟨p + 1, rfl, by omega, by omega, HW, B⟩
            · have q0 : decide ((p : Int) < 3) = false := by simp; omega
              obtain rfl : p = 3 := by omega
              have hst : ([an, ns, ar].take 3).foldl (fun st l => l.foldl rSt st) st1 = putSt pH qs an ns ar := by rw [← HS1.out]; rfl
              rw [hst] at HW
              have HST := Lib.hid hst
              clear hst
              have E1' := E1.out
              have E2' := E2.out
              clear E1 E2
              generalize putSt pH qs an ns ar = st9 at *
              obtain ⟨v, hv⟩ := HW.wr
              have hall := allc hv
              rw [Pu.nums_bytesOf] at hall
              have d0 : wr.cell? ⟨gw, 0, none⟩ = some (ptr g) := (blk_cell HW.blk 0).trans rfl
              have d1 : wr.cell? ⟨gw, 1, none⟩ = some (.bool st9.lg) := (blk_cell HW.blk 1).trans rfl
              have BF := B3.trans (B.mono s3)
              obtain ⟨sS, sm, slg⟩ := st9
              dsimp only at hall d1 E1' E2'
              have E1 := Lib.hid E1'
              have E2 := Lib.hid E2'
              clear E1' E2' HW hv
              cases slg with
              | true =>
                go_wp2_with fail
                go_ret2
                exact ⟨by rw [E1.out, E2.out]; rfl, BF⟩
              | false =>
                go_wp2_with fail
                refine hall.mono ?_
                rintro e w9 ⟨rfl, rfl⟩
                go_wp2_with fail
                go_ret2
                exact ⟨by rw [E1.out, E2.out]; rfl, BF⟩
end Go.Proofs.Ytjklgdpffmaamaa.Wm

namespace Go.Proofs.Ytjklgdpffmaamaa.CompS
open Go.RowKit Go.Proofs.Ytjklgdpffmaamaa.PCm Go.Proofs.YtjklgdpffmaamaaW.PrintWords Go.Proofs.Ytjklgdpffmaamaa.Pu
set_option linter.unusedVariables false
theorem f_at {s : ByteArray} {i : Nat} {r : ByteArray × Int × Int} (h : Ev (fun k => comp_Name.l0 k s (i : Int) [] (i : Int) (-1)) r) : Ev (fun k => comp_Name.f k s (i : Int)) r := Ev.neg (by omega) h
theorem l_go {s : ByteArray} {i : Int} {out : List Int} {bg bh b : Int} {r : ByteArray × Int × Int} (h0 : 0 ≤ i) (h : i < (s.size : Int)) (ho : out.length < 255) (hb : bt s i = b) (hz : b ≠ 0)
    (h1 : b ≤ 63 → Ev (fun k => comp_Name.j2 k s i out bg bh b (decide (b < wrap64 ((s.size : Int) - i)))) r) (h2 : 63 < b → Ev (fun k => comp_Name.j2 k s i out bg bh b false) r) : Ev (fun k => comp_Name.l0 k s i out bg bh) r := by
  have hr := bt_range s i
  rw [hb] at hr
  refine Ev.step (fun k => by rw [comp_Name.l0]) (Ev.pos h ?_)
  rw [decide_eq_true (show (out.length : Int) < 255 by omega)]
  refine Ev.step (fun k => by rw [comp_Name.j1]) (Ev.pos rfl (Ev.pos h0 (Ev.pos h ?_)))
  rw [hb, w64 (x := b) (by omega) (by omega)]
  refine Ev.neg hz ?_
  by_cases hc : b ≤ 63
  · exact Ev.pos hc (h1 hc)
  · exact Ev.neg hc (h2 (by omega))
theorem l_lab {s : ByteArray} {i : Int} {out : List Int} {bg bh b : Int} {r : ByteArray × Int × Int} (hs : s.size ≤ 1000000) (h0 : 0 ≤ i) (ho : out.length < 255) (hb : bt s i = b) (hz : b ≠ 0) (h63 : b ≤ 63) (hf : b < (s.size : Int) - i)
    (h : Ev (fun k => comp_Name.l0 k s (i + 1 + b) (out ++ bytesOf (s.extract i.toNat (i + 1 + b).toNat)) bg bh) r) : Ev (fun k => comp_Name.l0 k s i out bg bh) r := by
  have hr := bt_range s i
  rw [hb] at hr
  refine l_go h0 (by omega) ho hb hz (fun _ => ?_) (fun h => by omega)
  rw [w64 (x := (s.size : Int) - i) (by omega) (by omega), decide_eq_true hf]
  refine Ev.step (fun k => by rw [comp_Name.j2]) (Ev.pos rfl ?_)
  rw [w64 (x := i + 1) (by omega) (by omega), w64 (x := i + 1 + b) (by omega) (by omega), w64 (x := 1 + b) (by omega) (by omega), w64 (x := i + (1 + b)) (by omega) (by omega), show i + (1 + b) = i + 1 + b by omega]
  refine Ev.pos (by omega) (Ev.pos (by omega) (Ev.pos (by omega) (Ev.pos ?_ h)))
  rw [ByteArray.size_extract]; omega
/-- Where a pointer leads. -/
theorem to_eq {b c : Int} (hb : 192 ≤ b) (hb2 : b ≤ 255) (hc : 0 ≤ c) (hc2 : c ≤ 255) : Go.bits .or .i64 (wrap64 ((Go.bits .and .i64 b 63) * 256)) (wrap64 c) = (b - 192) * 256 + c := by
  rw [and_63, w64 (x := c) (by omega) (by omega), show b % 64 = b - 192 by omega, w64 (by omega) (by omega), or_shl8 _ _ (by omega) (by omega) hc hc2]
end Go.Proofs.Ytjklgdpffmaamaa.CompS

namespace Go.Proofs.Ytjklgdpffmaamaa.Wr
open Go.RowKit Go.PlainAid Go.Proofs.Ytjklgdpffmaamaa.Base Go.Proofs.Ytjklgdpffmaamaa.Oct Go.Proofs.Ytjklgdpffmaamaa.Nm
set_option linter.unusedVariables false
/-! ### Bytes -/
theorem ext_list (s : ByteArray) (i j : Nat) : (s.extract i j).data.toList = (s.data.toList.take j).drop i := by
  rw [ByteArray.data_extract, Array.toList_extract, List.extract_eq_take_drop, List.drop_take]
theorem ext_of {a b : ByteArray} (h : a.data.toList = b.data.toList) : a = b := ByteArray.ext (Array.ext' h)
theorem app_list (a b : ByteArray) : (a ++ b).data.toList = a.data.toList ++ b.data.toList := by rw [ByteArray.data_append, Array.toList_append]
theorem ext_join (s : ByteArray) (i j k : Nat) (h1 : i ≤ j) (h2 : j ≤ k) : s.extract i j ++ s.extract j k = s.extract i k := by
  apply ext_of
  rw [app_list, ext_list, ext_list, ext_list]
  generalize s.data.toList = l
  rw [← List.take_append_drop (j - i) ((l.take k).drop i), List.drop_drop, List.take_drop, List.take_take, show min (i + (j - i)) k = j by omega, show i + (j - i) = j by omega]
theorem ext_left (a b : ByteArray) (i j : Nat) (h : j ≤ a.size) : (a ++ b).extract i j = a.extract i j := by
  apply ext_of
  rw [ext_list, ext_list, app_list, List.take_append_of_le_length (by rw [len_data]; exact h)]
theorem ext_right (a b : ByteArray) (k : Nat) : (a ++ b).extract a.size (a.size + k) = b.extract 0 k := by
  apply ext_of
  rw [ext_list, ext_list, app_list]
  rw [List.take_append, len_data, List.drop_append, List.length_take, len_data, List.drop_eq_nil_of_le (by rw [List.length_take, len_data]; omega), show min (a.size + k) a.size = a.size by omega, show a.size - a.size = 0 by omega, show a.size + k - a.size = k by omega]
  simp
theorem ext_root {s : ByteArray} {p : Nat} (h : p + 1 = s.size) (h0 : bt s p = 0) : s.extract p s.size = root := by
  have hb := bt_data s p
  rw [h0] at hb
  have hl := len_data s
  apply ext_of
  rw [ext_list, ← h, List.take_of_length_le (by omega), List.drop_eq_getElem_cons (by omega), List.drop_eq_nil_of_le (by omega)]
  rw [List.getD_eq_getElem?_getD, List.getElem?_eq_getElem (by omega)] at hb
  have : (s.data.toList[p]'(by omega)).toNat = 0 := by simpa using hb.symm
  have : s.data.toList[p]'(by omega) = 0 := UInt8.toNat_inj.1 this
  rw [this]
/-! ### Names that lie in bytes -/
inductive Lies (S : ByteArray) : Nat → ByteArray → Nat → Nat → Prop
  | fin (bg i : Nat) (h : i < S.size) (h0 : bt S i = 0) : Lies S bg root i (i + 1)
  | lab (bg i k : Nat) (r : ByteArray) (nx : Nat) (hb : bt S i = (k : Int)) (h0 : 1 ≤ k) (h1 : k ≤ 63) (h : i + 1 + k ≤ S.size) (ih : Lies S bg r (i + 1 + k) nx) : Lies S bg (S.extract i (i + 1 + k) ++ r) i nx
  | ptr (bg i b c tg : Nat) (r : ByteArray) (nx : Nat) (hb : bt S i = (b : Int)) (hc : bt S (i + 1) = (c : Int)) (h0 : 192 ≤ b) (ht : tg = (b - 192) * 256 + c) (hlt : tg < bg) (h : i + 1 < S.size) (ih : Lies S tg r tg nx) : Lies S bg r i (i + 2)
theorem Lies.more {S : ByteArray} (T : ByteArray) {bg : Nat} {r : ByteArray} {i nx : Nat} (h : Lies S bg r i nx) : Lies (S ++ T) bg r i nx := by
  have z : (S ++ T).size = S.size + T.size := ByteArray.size_append
  induction h with
  | fin bg i h h0 => exact .fin bg i (by omega) (by rw [bt_append_left _ _ _ h]; exact h0)
  | lab bg i k r nx hb h0 h1 h _ ih =>
    have := Lies.lab (S := S ++ T) bg i k r nx (by rw [bt_append_left _ _ _ (by omega)]; exact hb) h0 h1 (by omega) ih
    rwa [ext_left _ _ _ _ h] at this
  | ptr bg i b c tg r nx hb hc h0 ht hlt h _ ih =>
    exact .ptr bg i b c tg r nx (by rw [bt_append_left _ _ _ (by omega)]; exact hb) (by rw [bt_append_left _ _ _ (by omega)]; exact hc) h0 ht hlt (by omega) ih
theorem Lies.wide {S : ByteArray} {bg bg' : Nat} {r : ByteArray} {i nx : Nat} (h : Lies S bg r i nx) (hb : bg ≤ bg') : Lies S bg' r i nx := by
  induction h generalizing bg' with
  | fin bg i h h0 => exact .fin bg' i h h0
  | lab bg i k r nx hb' h0 h1 h _ ih => exact .lab bg' i k r nx hb' h0 h1 h (ih hb)
  | ptr bg i b c tg r nx hb' hc h0 ht hlt h ih _ => exact .ptr bg' i b c tg r nx hb' hc h0 ht (by omega) h ih
theorem Lies.lt {S : ByteArray} {bg : Nat} {r : ByteArray} {i nx : Nat} (h : Lies S bg r i nx) : i < S.size := by
  cases h <;> omega
theorem Lies.pos {S : ByteArray} {bg : Nat} {r : ByteArray} {i nx : Nat} (h : Lies S bg r i nx) : 1 ≤ r.size := by
  induction h with
  | fin => decide
  | lab bg i k r nx _ _ _ _ _ ih => rw [ByteArray.size_append]; omega
  | ptr _ _ _ _ _ _ _ _ _ _ _ _ _ _ ih => exact ih
/-! ### What lies is read -/
section
open Go.Proofs.Ytjklgdpffmaamaa.PCm Go.Proofs.Ytjklgdpffmaamaa.CompS Go.Proofs.Ytjklgdpffmaamaa.Pu
open Go.Proofs.YtjklgdpffmaamaaW.PrintWords (bytesOf bytesOf_length Ev)
theorem bt_is (s : ByteArray) (i : Nat) : Go.Proofs.YtjklgdpffmaamaaW.PrintWords.bt s (i : Int) = bt s i := by
  rw [bt_bytes, bt_data, List.getD_eq_getElem?_getD, List.getD_eq_getElem?_getD, bytesOf, List.getElem?_map]
  cases s.data.toList[i]? <;> rfl
theorem Lies.read {S : ByteArray} (hS : S.size ≤ 1000000) {bg : Nat} {r : ByteArray} {i nx : Nat} (h : Lies S bg r i nx) : ∀ (out : List Int) (bh : Int), out.length + r.size ≤ 255 →
    Ev (fun k => comp_Name.l0 k S (i : Int) out (bg : Int) bh) (strOfNums (out ++ bytesOf r), (if bh < 0 then (nx : Int) else bh), 0) := by
  induction h with
  | fin bg i h h0 =>
    intro out bh ho
    have z : root.size = 1 := rfl
    have hb := bt_is S i
    rw [h0] at hb
    refine Ev.step (fun k => by rw [comp_Name.l0]) (Ev.pos (by omega) ?_)
    rw [decide_eq_true (show (out.length : Int) < 255 by omega)]
    refine Ev.step (fun k => by rw [comp_Name.j1]) (Ev.pos rfl (Ev.pos (by omega) (Ev.pos (by omega) ?_)))
    rw [hb]
    refine Ev.pos (Pu.w64 (by decide) (by decide)) ?_
    rw [show bytesOf root = [0] by decide +kernel]
    by_cases hbh : bh < 0
    · refine Ev.pos hbh (Ev.pos (by omega) ?_)
      rw [if_pos hbh, Pu.w64 (x := (i : Int) + 1) (by omega) (by omega)]
      exact Ev.some _ fun _ => rfl
    · refine Ev.neg hbh (Ev.pos (by omega) ?_)
      rw [if_neg hbh]
      exact Ev.some _ fun _ => rfl
  | lab bg i k r nx hb h0 h1 h hr ih =>
    intro out bh ho
    have z : (S.extract i (i + 1 + k)).size = k + 1 := by rw [ByteArray.size_extract]; omega
    rw [ByteArray.size_append, z] at ho
    have hp := hr.pos
    refine l_lab (b := (k : Int)) hS (by omega) (by omega) ((bt_is S i).trans hb) (by omega) (by omega) (by omega) ?_
    have e : ((i : Int) + 1 + (k : Int)) = ((i + 1 + k : Nat) : Int) := by omega
    rw [e]
    have := ih (out ++ bytesOf (S.extract i (i + 1 + k))) bh (by rw [List.length_append, bytesOf_length, z]; omega)
    rw [bytesOf_append, ← List.append_assoc]
    exact this
  | ptr bg i b c tg r nx hb hc h0 ht hlt h hr ih =>
    intro out bh ho
    have hp := hr.pos
    have hb' := (bt_is S i).trans hb
    have hc' := (bt_is S (i + 1)).trans hc
    have r1 := Go.Proofs.YtjklgdpffmaamaaW.PrintWords.bt_range S (i : Int)
    have r2 := Go.Proofs.YtjklgdpffmaamaaW.PrintWords.bt_range S ((i : Int) + 1)
    have e1 : ((i + 1 : Nat) : Int) = (i : Int) + 1 := by omega
    rw [e1] at hc'
    rw [hb'] at r1
    rw [hc'] at r2
    have hto : Go.bits .or .i64 (wrap64 ((Go.bits .and .i64 (b : Int) 63) * 256)) (wrap64 (c : Int)) = (tg : Int) := by
      rw [to_eq (by omega) r1.2 r2.1 r2.2, ht]; omega
    refine l_go (b := (b : Int)) (by omega) (by omega) (by omega) hb' (by omega) (fun h => by omega) (fun _ => ?_)
    refine Ev.step (fun k => by rw [comp_Name.j2]) (Ev.neg (by simp) (Ev.pos (by omega) ?_))
    rw [Pu.w64 (x := (i : Int) + 1) (by omega) (by omega), decide_eq_true (show (i : Int) + 1 < (S.size : Int) by omega)]
    refine Ev.step (fun k => by rw [comp_Name.j3]) (Ev.pos rfl ?_)
    rw [Pu.w64 (x := (i : Int) + 1) (by omega) (by omega)]
    refine Ev.pos (by omega) (Ev.pos (by omega) (Ev.neg ?_ ?_))
    · rw [hc', hto]; omega
    · rw [hc', hto]
      by_cases hbh : bh < 0
      · refine Ev.pos hbh ?_
        rw [if_pos hbh, Pu.w64 (x := (i : Int) + 2) (by omega) (by omega)]
        have := ih out ((i : Int) + 2) ho
        rw [if_neg (by omega)] at this
        exact this
      · refine Ev.neg hbh ?_
        rw [if_neg hbh]
        have := ih out bh ho
        rw [if_neg hbh] at this
        exact this
theorem Lies.name {S : ByteArray} (hS : S.size ≤ 1000000) {r : ByteArray} {i nx : Nat} (h : Lies S i r i nx) (hr : r.size ≤ 255) : Ev (fun k => comp_Name.f k S (i : Int)) (r, (nx : Int), 0) := by
  have := h.read hS [] (-1) (by simpa using hr)
  rw [List.nil_append, nums_bytesOf, if_pos (by decide)] at this
  exact f_at this
end
/-! ### What a writer puts behind lies -/
/-- All that is kept lies where it is said to. -/
def Known (S : ByteArray) (m : ByteArray → Option Int) : Prop := ∀ r t, m r = some t → ∃ i nx : Nat, t = (i : Int) ∧ i < 16384 ∧ Lies S i r i nx
/-- The rest of what is put behind, from a place on. -/
def tailN (s : ByteArray) (p : Nat) : Option (Nat × Nat × Int) → ByteArray
  | some (_, q, t) => s.extract p q ++ p16 (Go.bits .or .i64 49152 t)
  | none => s.extract p s.size
def wroteF (i n : Nat) : Option (Nat × Nat × Int) → Nat
  | some (j, _, _) => j - i
  | none => n
theorem p16_ptr (t : Nat) (ht : t < 16384) : bt (p16 (Go.bits .or .i64 49152 (t : Int))) 0 = ((192 + t / 256 : Nat) : Int) ∧ bt (p16 (Go.bits .or .i64 49152 (t : Int))) 1 = ((t % 256 : Nat) : Int) := by
  have e : Go.bits .or .i64 49152 (t : Int) = 49152 + (t : Int) := by
    have := Pu.or_shl 14 (by decide) 3 (t : Int) (by decide) (by omega) (by omega) (by omega)
    simpa using this
  rw [e]
  unfold p16
  constructor
  · rw [bt_nums _ 0 ((49152 + (t : Int)) / 256 % 256) (by rfl) (by omega) (by omega)]; omega
  · rw [bt_nums _ 1 ((49152 + (t : Int)) % 256) (by rfl) (by omega) (by omega)]; omega
theorem find_ge (m : ByteArray → Option Int) (s : ByteArray) : ∀ (ps : List Nat) (i j p : Nat) (t : Int), findP m s ps i = some (j, p, t) → i ≤ j ∧ m (s.extract p s.size) = some t := by
  intro ps
  induction ps with
  | nil => intro i j p t h; cases h
  | cons a ps ih =>
    intro i j p t h
    rw [findP] at h
    cases hm : m (s.extract a s.size) with
    | none => rw [hm] at h; have := ih _ _ _ _ h; exact ⟨by omega, this.2⟩
    | some u =>
      rw [hm] at h
      injection h with h
      injection h with h1 h
      injection h with h2 h3
      subst h2; subst h3
      exact ⟨by omega, hm⟩
theorem placesAt_ge (s : ByteArray) : ∀ n i, s.size - i ≤ n → ∀ p ∈ placesAt s i, i ≤ p := by
  intro n
  induction n with
  | zero => intro i h p hp; rw [placesAt, if_neg (by omega)] at hp; cases hp
  | succ n ih =>
    intro i h p hp
    rw [placesAt] at hp
    by_cases hi : i < s.size
    · rw [if_pos hi] at hp
      rcases List.mem_cons.1 hp with rfl | hp
      · exact Nat.le_refl _
      · by_cases h0 : PlainAid.bt s i = 0
        · rw [if_pos h0] at hp; cases hp
        · rw [if_neg h0] at hp
          by_cases h1 : 63 < PlainAid.bt s i
          · rw [if_pos h1] at hp; cases hp
          · rw [if_neg h1] at hp
            have := ih (i + 1 + (PlainAid.bt s i).toNat) (by omega) p hp
            omega
    · rw [if_neg hi] at hp; cases hp
theorem put_lies {S s : ByteArray} {m : ByteArray → Option Int} (hm : Known S m) (bg : Nat) (hbg : S.size ≤ bg) : ∀ (n p i : Nat), s.size - p ≤ n → nameAt s p = true → ∀ T : ByteArray, (∃ U, T = S ++ U) →
    (tailN s p (findP m s (placesAt s p).dropLast i)).size + p ≤ s.size ∧
    Lies (T ++ tailN s p (findP m s (placesAt s p).dropLast i)) bg (s.extract p s.size) T.size (T ++ tailN s p (findP m s (placesAt s p).dropLast i)).size ∧
    ∀ q ∈ (placesAt s p).dropLast.take (wroteF i (placesAt s p).dropLast.length (findP m s (placesAt s p).dropLast i)), Lies (T ++ tailN s p (findP m s (placesAt s p).dropLast i)) bg (s.extract q s.size) (T.size + (q - p)) (T ++ tailN s p (findP m s (placesAt s p).dropLast i)).size := by
  intro n
  induction n with
  | zero => intro p i h hn; rw [nameAt_out (by omega)] at hn; cases hn
  | succ n ih =>
    intro p i h hn T hT
    have hp : p < s.size := by
      by_cases h : p < s.size
      · exact h
      · rw [nameAt_out (by omega)] at hn; cases hn
    by_cases h0 : bt s p = 0
    · rw [nameAt_end hp h0] at hn
      have he : p + 1 = s.size := by simpa using hn
      have er := ext_root he h0
      rw [placesAt_end hp h0]
      show (s.extract p s.size).size + p ≤ s.size ∧ Lies (T ++ s.extract p s.size) bg (s.extract p s.size) T.size (T ++ s.extract p s.size).size ∧ _
      rw [er]
      have z : (T ++ root).size = T.size + 1 := by rw [ByteArray.size_append]; rfl
      refine ⟨by show 1 + p ≤ s.size; omega, ?_, fun q hq => by simp at hq⟩
      rw [z]
      exact .fin bg T.size (by omega) (by rw [bt_append_right _ _ _ (by omega), Nat.sub_self]; exact root_bt)
    · have h63 : bt s p ≤ 63 := by
        by_cases h1 : 63 < bt s p
        · rw [nameAt_bad hp h1] at hn; cases hn
        · omega
      rw [nameAt_next hp h0 h63] at hn
      obtain ⟨k, hk⟩ : ∃ k : Nat, bt s p = (k : Int) := ⟨(bt s p).toNat, by have := bt_nonneg s p; omega⟩
      have hk0 : 1 ≤ k := by omega
      rw [hk, Int.toNat_natCast] at hn
      have hq : p + 1 + k < s.size := by
        by_cases h : p + 1 + k < s.size
        · exact h
        · rw [nameAt_out (by omega)] at hn; cases hn
      have hd : (placesAt s p).dropLast = p :: (placesAt s (p + 1 + k)).dropLast := by
        rw [placesAt_next hp h0 h63, hk, Int.toNat_natCast, List.dropLast_cons_of_ne_nil (places_ne _ _ hn)]
      rw [hd]
      cases hmp : m (s.extract p s.size) with
      | some t =>
        obtain ⟨tg, nx, rfl, hto, hl⟩ := hm _ _ hmp
        have ef : findP m s (p :: (placesAt s (p + 1 + k)).dropLast) i = some (i, p, (tg : Int)) := by rw [findP, hmp]
        rw [ef]
        obtain ⟨U, rfl⟩ := hT
        have e : tailN s p (some (i, p, (tg : Int))) = p16 (Go.bits .or .i64 49152 (tg : Int)) := by
          show s.extract p p ++ _ = _
          simp
        rw [e]
        have z : (S ++ U ++ p16 (Go.bits .or .i64 49152 (tg : Int))).size = (S ++ U).size + 2 := by rw [ByteArray.size_append, p16_size]
        have zS : S.size ≤ (S ++ U).size := by rw [ByteArray.size_append]; omega
        have hpt := p16_ptr tg hto
        refine ⟨by rw [p16_size]; omega, ?_, fun q hq => by simp [wroteF] at hq⟩
        rw [z]
        refine .ptr bg (S ++ U).size (192 + tg / 256) (tg % 256) tg _ nx ?_ ?_ (by omega) (by omega) (by have := hl.lt; omega) (by omega) ?_
        · rw [bt_append_right _ _ _ (by omega), Nat.sub_self]; exact hpt.1
        · rw [bt_append_right _ _ _ (by omega), Nat.add_sub_cancel_left]; exact hpt.2
        · rw [ByteArray.append_assoc]; exact hl.more _
      | none =>
        have ef : findP m s (p :: (placesAt s (p + 1 + k)).dropLast) i = findP m s (placesAt s (p + 1 + k)).dropLast (i + 1) := by rw [findP, hmp]
        rw [ef]
        have IH := ih (p + 1 + k) (i + 1) (by omega) hn (T ++ s.extract p (p + 1 + k)) (by obtain ⟨U, rfl⟩ := hT; exact ⟨U ++ s.extract p (p + 1 + k), by rw [ByteArray.append_assoc]⟩)
        have hge : ∀ j q t, findP m s (placesAt s (p + 1 + k)).dropLast (i + 1) = some (j, q, t) → p + 1 + k ≤ q ∧ i + 1 ≤ j := fun j q t hf =>
          ⟨placesAt_ge s _ _ (Nat.le_refl _) q (List.dropLast_subset _ ((find_le m s _ _ _ _ _ hf).2)), (find_ge m s _ _ _ _ _ hf).1⟩
        generalize findP m s (placesAt s (p + 1 + k)).dropLast (i + 1) = f at IH hge ⊢
        have ze : (s.extract p (p + 1 + k)).size = 1 + k := by rw [ByteArray.size_extract]; omega
        have et : tailN s p f = s.extract p (p + 1 + k) ++ tailN s (p + 1 + k) f := by
          match f, hge with
          | none, _ => exact (ext_join s p (p + 1 + k) s.size (by omega) (by omega)).symm
          | some (j, q, t), hge =>
            show s.extract p q ++ _ = s.extract p (p + 1 + k) ++ (s.extract (p + 1 + k) q ++ _)
            rw [← ByteArray.append_assoc, ext_join s p (p + 1 + k) q (by omega) (hge j q t rfl).1]
        rw [et, ← ByteArray.append_assoc]
        have zT : (T ++ s.extract p (p + 1 + k)).size = T.size + 1 + k := by rw [ByteArray.size_append, ze]; omega
        obtain ⟨i1, i2, i3⟩ := IH
        rw [zT] at i2 i3
        have L : Lies (T ++ s.extract p (p + 1 + k) ++ tailN s (p + 1 + k) f) bg (s.extract p s.size) T.size (T ++ s.extract p (p + 1 + k) ++ tailN s (p + 1 + k) f).size := by
          have b0 : bt (T ++ s.extract p (p + 1 + k) ++ tailN s (p + 1 + k) f) T.size = (k : Int) := by
            rw [ByteArray.append_assoc, bt_append_right _ _ _ (by omega), Nat.sub_self, bt_append_left _ _ _ (by omega)]
            have : bt (s.extract p (p + 1 + k)) 0 = bt s p := by
              rw [bt_data, bt_data, ext_list, List.getD_eq_getElem?_getD, List.getD_eq_getElem?_getD, List.getElem?_drop, List.getElem?_take_of_lt (by omega), Nat.add_zero]
            rw [this, hk]
          have := Lies.lab bg T.size k (s.extract (p + 1 + k) s.size) _ b0 hk0 (by omega) (by rw [ByteArray.size_append, zT]; omega) i2
          rw [ByteArray.append_assoc, show T.size + 1 + k = T.size + (1 + k) by omega, ext_right T _ (1 + k), ext_left _ _ _ _ (by omega)] at this
          rw [show (s.extract p (p + 1 + k)).extract 0 (1 + k) = s.extract p (p + 1 + k) by have := ext0 (s.extract p (p + 1 + k)); rwa [ze] at this, ext_join s p (p + 1 + k) s.size (by omega) (by omega), ← ByteArray.append_assoc] at this
          exact this
        refine ⟨by rw [ByteArray.size_append, ze]; omega, L, fun q hq => ?_⟩
        have hw : wroteF i (p :: (placesAt s (p + 1 + k)).dropLast).length f = wroteF (i + 1) (placesAt s (p + 1 + k)).dropLast.length f + 1 := by
          match f, hge with
          | none, _ => rfl
          | some (j, q, t), hge => have := (hge j q t rfl).2; show j - i = j - (i + 1) + 1; omega
        rw [hw, List.take_succ_cons] at hq
        rcases List.mem_cons.1 hq with rfl | hq
        · rw [Nat.sub_self, Nat.add_zero]; exact L
        · have h3 := i3 q hq
          have := placesAt_ge s _ _ (Nat.le_refl _) q (List.dropLast_subset _ (List.mem_of_mem_take hq))
          rw [show T.size + (q - p) = T.size + 1 + k + (q - (p + 1 + k)) by omega]
          exact h3
theorem putK_inv (s x : ByteArray) (at0 : Nat) (t : Int) : ∀ (ps : List Nat) (m : ByteArray → Option Int), putK m s at0 ps x = some t → m x = some t ∨ ∃ p ∈ ps, x = s.extract p s.size ∧ t = (at0 : Int) + p := by
  intro ps
  induction ps with
  | nil => intro m h; exact .inl h
  | cons p ps ih =>
    intro m h
    rcases ih _ h with h | ⟨q, hq, h⟩
    · replace h : (if x = s.extract p s.size then some ((at0 : Int) + p) else m x) = some t := h
      by_cases e : x = s.extract p s.size
      · rw [if_pos e] at h
        injection h with h
        exact .inr ⟨p, List.mem_cons_self .., e, h.symm⟩
      · rw [if_neg e] at h; exact .inl h
    · exact .inr ⟨q, List.mem_cons_of_mem _ hq, h⟩
/-- Behind a name that was put: it lies where the bytes ended, all that is kept lies; it is no longer than it is. -/
theorem put_known {S s : ByteArray} {m : ByteArray → Option Int} (hm : Known S m) (hs : nameB s = true) (hz : S.size + s.size < 16384) :
    (outN m s).size ≤ s.size ∧ Lies (S ++ outN m s) S.size s S.size (S ++ outN m s).size ∧ Known (S ++ outN m s) (putN m s S.size) := by
  obtain ⟨h1, h2, h3⟩ := name_first hs
  have eo : outN m s = tailN s 0 (findP m s (placesAt s 0).dropLast 0) := by
    unfold outN heads places
    cases findP m s (placesAt s 0).dropLast 0 with
    | none => show s = s.extract 0 s.size; rw [ext0]
    | some r => obtain ⟨i, p, t⟩ := r; rfl
  have ew : wroteN m s = wroteF 0 (placesAt s 0).dropLast.length (findP m s (placesAt s 0).dropLast 0) := by
    unfold wroteN heads places
    cases findP m s (placesAt s 0).dropLast 0 with
    | none => rfl
    | some r => obtain ⟨i, p, t⟩ := r; rfl
  have H := put_lies hm S.size (Nat.le_refl _) s.size 0 0 (by omega) h3 S ⟨⟨#[]⟩, by apply ext_of; rw [app_list]; simp⟩
  rw [← eo, ← ew, ext0] at H
  refine ⟨by have := H.1; omega, H.2.1, fun r t hr => ?_⟩
  rcases putK_inv s r S.size t _ _ hr with hr | ⟨p, hp, rfl, rfl⟩
  · obtain ⟨i, nx, e, hi, hl⟩ := hm r t hr
    exact ⟨i, nx, e, hi, hl.more _⟩
  · have hl := H.2.2 p hp
    have hps := placesAt_mem s _ 0 (Nat.le_refl _) p (List.dropLast_subset _ (List.mem_of_mem_take hp))
    rw [Nat.sub_zero] at hl
    exact ⟨S.size + p, _, by omega, by omega, hl.wide (by omega)⟩
end Go.Proofs.Ytjklgdpffmaamaa.Wr

namespace Go.Proofs.Ytjklgdpffmaamaa.Hd
open Go.RowKit Go.PlainAid Go.Proofs.Ytjklgdpffmaamaa.Base Go.Proofs.Ytjklgdpffmaamaa.Oct
set_option linter.unusedVariables false

def bi (b : Bool) : Int := bif b then 1 else 0
theorem bi_bd (b : Bool) : 0 ≤ bi b ∧ bi b ≤ 1 := by cases b <;> decide
theorem bi_inj (b : Bool) : (bi b == 1) = b := by cases b <;> rfl
theorem bw15 (b : Bool) : bitW b 15 = 32768 * bi b := by cases b <;> rfl
theorem bw10 (b : Bool) : bitW b 10 = 1024 * bi b := by cases b <;> rfl
theorem bw9 (b : Bool) : bitW b 9 = 512 * bi b := by cases b <;> rfl
theorem bw8 (b : Bool) : bitW b 8 = 256 * bi b := by cases b <;> rfl
theorem bw7 (b : Bool) : bitW b 7 = 128 * bi b := by cases b <;> rfl
theorem orj (i : Nat) (x y : Int) (hx : 0 ≤ x) (hm : x % 2 ^ i = 0) (hx1 : x < 9223372036854775808) (hy : 0 ≤ y) (hy1 : y < 2 ^ i) (hy2 : y < 9223372036854775808) : Go.bits .or .i64 x y = x + y :=
  bits_join .i64 63 (by decide) wraps_i64 i x y hx hm (by omega) hy hy1 (by omega)
def Head.sum (h : Head) : Int := 32768 * bi h.qr + 2048 * h.op + 1024 * bi h.aa + 512 * bi h.tc + 256 * bi h.rd + 128 * bi h.ra + 16 * h.z + h.rc
theorem flags_sum (h : Head) (a0 : 0 ≤ h.op) (a1 : h.op ≤ 15) (a2 : 0 ≤ h.z) (a3 : h.z ≤ 7) (a4 : 0 ≤ h.rc) (a5 : h.rc ≤ 15) : h.flagsN = h.sum := by
  have b0 := bi_bd h.qr; have b1 := bi_bd h.aa; have b2 := bi_bd h.tc; have b3 := bi_bd h.rd; have b4 := bi_bd h.ra
  unfold Head.flagsN Head.sum
  rw [bw15, bw10, bw9, bw8, bw7]
  rw [orj 15 (32768 * bi h.qr) (h.op * 2048) (by omega) (by omega) (by omega) (by omega) (by omega) (by omega)]
  rw [orj 11 _ (1024 * bi h.aa) (by omega) (by omega) (by omega) (by omega) (by omega) (by omega)]
  rw [orj 10 _ (512 * bi h.tc) (by omega) (by omega) (by omega) (by omega) (by omega) (by omega)]
  rw [orj 9 _ (256 * bi h.rd) (by omega) (by omega) (by omega) (by omega) (by omega) (by omega)]
  rw [orj 8 _ (128 * bi h.ra) (by omega) (by omega) (by omega) (by omega) (by omega) (by omega)]
  rw [orj 7 _ (h.z * 16) (by omega) (by omega) (by omega) (by omega) (by omega) (by omega)]
  rw [orj 4 _ h.rc (by omega) (by omega) (by omega) (by omega) (by omega) (by omega)]
  omega
theorem and15 (x : Int) : Go.bits .and .i64 x 15 = x % 16 := and_mask 4 (by decide) x
theorem and7 (x : Int) : Go.bits .and .i64 x 7 = x % 8 := and_mask 3 (by decide) x

/-! ### Bytes -/
theorem be2_left (s t : ByteArray) (i : Nat) (h : i + 2 ≤ s.size) : be2 (s ++ t) i = be2 s i := by
  unfold be2; rw [bt_append_left _ _ _ (by omega), bt_append_left _ _ _ (by omega)]
theorem be2_right (s t : ByteArray) (i : Nat) (h : s.size ≤ i) : be2 (s ++ t) i = be2 t (i - s.size) := by
  unfold be2; rw [bt_append_right _ _ _ (by omega), bt_append_right _ _ _ (by omega), show i + 1 - s.size = i - s.size + 1 by omega]
theorem be2_p16 (x : Int) (h0 : 0 ≤ x) (h1 : x ≤ 65535) : be2 (p16 x) 0 = x := by
  unfold be2 p16
  rw [bt_nums _ 0 (x / 256 % 256) rfl (by omega) (by omega), bt_nums _ 1 (x % 256) rfl (by omega) (by omega)]
  omega
theorem putS_size (h : Head) (a b c d : Int) : (h.putS a b c d).size = 12 := by
  simp [Head.putS, ByteArray.size_append, p16_size]
/-- Two bytes, then the rest. -/
theorem be2_at (s t : ByteArray) (x : Int) (i : Nat) (hs : s.size = i) (h0 : 0 ≤ x) (h1 : x ≤ 65535) : be2 (s ++ p16 x ++ t) i = x := by
  subst hs
  rw [be2_left _ _ _ (by rw [ByteArray.size_append, p16_size]; omega), be2_right _ _ _ (by omega), Nat.sub_self, be2_p16 x h0 h1]
theorem flagsW_sum (h : Head) (hk : h.ok) : h.flagsW = h.sum := by
  obtain ⟨_, k1, k2, k3⟩ := hk
  rw [flags_eq h k1.1 k1.2 k3.1 k3.2, flags_sum h k1.1 k1.2 k3.1 k3.2 k2.1 k2.2]
theorem sum_bd (h : Head) (hk : h.ok) : 0 ≤ h.sum ∧ h.sum ≤ 65535 := by
  obtain ⟨_, k1, k2, k3⟩ := hk
  have b0 := bi_bd h.qr; have b1 := bi_bd h.aa; have b2 := bi_bd h.tc; have b3 := bi_bd h.rd; have b4 := bi_bd h.ra
  unfold Head.sum; omega
theorem bitB_of (f k : Int) (p : Int) (b : Bool) (hp : bitB f k = (Go.bits .and .i64 (f / p) 1 == 1)) (h : f / p % 2 = bi b) : bitB f k = b := by
  rw [hp, and_1, h]; exact bi_inj b
theorem back (h : Head) (a b c d : Int) (t : ByteArray) (hm : mayB h a b c d = true) : gotH (h.putS a b c d ++ t) = h ∧ gotC (h.putS a b c d ++ t) 4 = a ∧ gotC (h.putS a b c d ++ t) 6 = b ∧ gotC (h.putS a b c d ++ t) 8 = c ∧ gotC (h.putS a b c d ++ t) 10 = d ∧ gotE (h.putS a b c d ++ t) = 0 := by
  obtain ⟨⟨h0, h1, h2, h3⟩, hk⟩ := of_decide_eq_true hm
  have hz : 12 ≤ (h.putS a b c d ++ t).size := by rw [ByteArray.size_append, putS_size]; omega
  have hf := flagsW_sum h hk
  have hb := sum_bd h hk
  rw [gotH_yes hz, gotC_yes hz, gotC_yes hz, gotC_yes hz, gotC_yes hz, gotE_yes hz]
  have e0 : be2 (h.putS a b c d ++ t) 0 = h.id := by
    unfold Head.putS
    rw [show p16 h.id ++ p16 h.flagsW ++ p16 a ++ p16 b ++ p16 c ++ p16 d ++ t = ByteArray.empty ++ p16 h.id ++ (p16 h.flagsW ++ p16 a ++ p16 b ++ p16 c ++ p16 d ++ t) by simp [ByteArray.append_assoc]]
    exact be2_at _ _ _ _ rfl hk.1.1 hk.1.2
  have e2 : be2 (h.putS a b c d ++ t) 2 = h.sum := by
    unfold Head.putS
    rw [show p16 h.id ++ p16 h.flagsW ++ p16 a ++ p16 b ++ p16 c ++ p16 d ++ t = p16 h.id ++ p16 h.flagsW ++ (p16 a ++ p16 b ++ p16 c ++ p16 d ++ t) by simp [ByteArray.append_assoc], hf]
    exact be2_at _ _ _ _ (p16_size _) hb.1 hb.2
  have e4 : be2 (h.putS a b c d ++ t) 4 = a := by
    unfold Head.putS
    rw [show p16 h.id ++ p16 h.flagsW ++ p16 a ++ p16 b ++ p16 c ++ p16 d ++ t = (p16 h.id ++ p16 h.flagsW) ++ p16 a ++ (p16 b ++ p16 c ++ p16 d ++ t) by simp [ByteArray.append_assoc]]
    exact be2_at _ _ _ _ (by simp [ByteArray.size_append, p16_size]) h0.1 h0.2
  have e6 : be2 (h.putS a b c d ++ t) 6 = b := by
    unfold Head.putS
    rw [show p16 h.id ++ p16 h.flagsW ++ p16 a ++ p16 b ++ p16 c ++ p16 d ++ t = (p16 h.id ++ p16 h.flagsW ++ p16 a) ++ p16 b ++ (p16 c ++ p16 d ++ t) by simp [ByteArray.append_assoc]]
    exact be2_at _ _ _ _ (by simp [ByteArray.size_append, p16_size]) h1.1 h1.2
  have e8 : be2 (h.putS a b c d ++ t) 8 = c := by
    unfold Head.putS
    rw [show p16 h.id ++ p16 h.flagsW ++ p16 a ++ p16 b ++ p16 c ++ p16 d ++ t = (p16 h.id ++ p16 h.flagsW ++ p16 a ++ p16 b) ++ p16 c ++ (p16 d ++ t) by simp [ByteArray.append_assoc]]
    exact be2_at _ _ _ _ (by simp [ByteArray.size_append, p16_size]) h2.1 h2.2
  have e10 : be2 (h.putS a b c d ++ t) 10 = d := by
    unfold Head.putS
    exact be2_at _ _ _ _ (by simp [ByteArray.size_append, p16_size]) h3.1 h3.2
  refine ⟨?_, e4, e6, e8, e10, rfl⟩
  obtain ⟨_, k1, k2, k3⟩ := hk
  have b0 := bi_bd h.qr; have b1 := bi_bd h.aa; have b2 := bi_bd h.tc; have b3 := bi_bd h.rd; have b4 := bi_bd h.ra
  unfold getH
  rw [e0, e2, and15, and15, and7]
  have s0 : h.sum = 32768 * bi h.qr + 2048 * h.op + 1024 * bi h.aa + 512 * bi h.tc + 256 * bi h.rd + 128 * bi h.ra + 16 * h.z + h.rc := rfl
  rw [bitB_of _ _ _ h.qr (bitB15 _) (by omega), bitB_of _ _ _ h.aa (bitB10 _) (by omega), bitB_of _ _ _ h.tc (bitB9 _) (by omega), bitB_of _ _ _ h.rd (bitB8 _) (by omega), bitB_of _ _ _ h.ra (bitB7 _) (by omega)]
  rw [show h.sum / 2048 % 16 = h.op by omega, show h.sum / 16 % 8 = h.z by omega, show h.sum % 16 = h.rc by omega]

/-! ### Any twelve bytes -/
end Go.Proofs.Ytjklgdpffmaamaa.Hd

namespace Go.Proofs.Ytjklgdpffmaamaa.Wm
open Go.RowKit Go.PlainAid Go.Proofs.Ytjklgdpffmaamaa.Base Go.Proofs.Ytjklgdpffmaamaa.Oct Go.Proofs.Ytjklgdpffmaamaa.Nm Go.Proofs.Ytjklgdpffmaamaa.Wr Go.Proofs.Ytjklgdpffmaamaa.PCm Go.Proofs.Ytjklgdpffmaamaa.CompS Go.Proofs.Ytjklgdpffmaamaa.Pu
open Go.Proofs.YtjklgdpffmaamaaW.PrintWords (Ev bytesOf bytesOf_length LeO)
set_option linter.unusedVariables false
/-! ### A name that lies uncompressed -/
theorem find_none (s : ByteArray) : ∀ (ps : List Nat) (i : Nat), findP (fun _ => none) s ps i = none
  | [], _ => rfl
  | p :: ps, i => by rw [findP]; exact find_none s ps (i + 1)
theorem outN_plain (s : ByteArray) : outN (fun _ => none) s = s := by
  unfold outN; rw [find_none]
theorem ext_cut {S d : ByteArray} {i : Nat} (h : i + d.size ≤ S.size) (he : S.extract i (i + d.size) = d) : S = S.extract 0 i ++ d ++ S.extract (i + d.size) S.size := by
  have e := ext_join S 0 i (i + d.size) (by omega) (by omega)
  have e2 := ext_join S 0 (i + d.size) S.size (by omega) h
  rw [he] at e
  rw [e, e2, ext0]
theorem lies_plain {S n : ByteArray} {i : Nat} (hn : nameB n = true) (h : i + n.size ≤ S.size) (hS : S.size ≤ 16000) (he : S.extract i (i + n.size) = n) : Lies S i n i (i + n.size) := by
  have hn2 := (name_first hn).2.1
  have z : (S.extract 0 i).size = i := by rw [ByteArray.size_extract]; omega
  have H := (put_known (S := S.extract 0 i) (s := n) (m := fun _ => none) (fun r t h => by cases h) hn (by omega)).2.1
  rw [outN_plain, ByteArray.size_append, z] at H
  have := H.more (S.extract (i + n.size) S.size)
  rw [← ext_cut h he] at this
  exact this
theorem names_1 {s nm : ByteArray} {i q : Int} (h : Ev (fun k => comp_Name.f k s i) (nm, q, 0)) (hs : nm.size ≤ 255) : Ev (fun k => comp_names.f k s i 1) (nm, q, 0) := by
  show Ev (fun k => comp_names.l0 k s i (⟨#[]⟩ : ByteArray) 1 0) _
  refine Ev.step (fun k => by rw [comp_names.l0]) (Ev.pos (by decide) (Ev.bind h ?_))
  refine Ev.pos rfl (Ev.pos (by show 0 + nm.size ≤ 9223372036854775807; omega) ?_)
  refine Ev.step (fun k => by rw [comp_names.l0]) (Ev.neg (by rw [Pu.w64 (by decide) (by decide)]; decide) (Ev.some _ fun _ => ?_))
  show some ((⟨#[]⟩ : ByteArray) ++ nm, q, (0 : Int)) = _
  rw [show (⟨#[]⟩ : ByteArray) ++ nm = nm from ByteArray.empty_append]
theorem names_2 {s nm nn : ByteArray} {i p q : Int} (h : Ev (fun k => comp_Name.f k s i) (nm, p, 0)) (h2 : Ev (fun k => comp_Name.f k s p) (nn, q, 0)) (hs : nm.size ≤ 255) (hs2 : nn.size ≤ 255) : Ev (fun k => comp_names.f k s i 2) (nm ++ nn, q, 0) := by
  show Ev (fun k => comp_names.l0 k s i (⟨#[]⟩ : ByteArray) 2 0) _
  refine Ev.step (fun k => by rw [comp_names.l0]) (Ev.pos (by decide) (Ev.bind h ?_))
  refine Ev.pos rfl (Ev.pos (by show 0 + nm.size ≤ 9223372036854775807; omega) ?_)
  have e : (⟨#[]⟩ : ByteArray) ++ nm = nm := ByteArray.empty_append
  refine Ev.step (fun k => by rw [comp_names.l0]) (Ev.pos (by rw [Pu.w64 (by decide) (by decide)]; decide) (Ev.bind h2 ?_))
  dsimp only
  rw [e]
  refine Ev.pos rfl (Ev.pos (by omega) ?_)
  exact Ev.step (fun k => by rw [comp_names.l0]) (Ev.neg (by rw [Pu.w64 (x := 0 + 1) (by decide) (by decide), Pu.w64 (by decide) (by decide)]; decide) (Ev.some _ fun _ => rfl))
/-! ### Data -/
theorem shape_0 {t : Int} (h2 : t ≠ 2) (h5 : t ≠ 5) (h12 : t ≠ 12) (h15 : t ≠ 15) (h6 : t ≠ 6) : Ev (fun k => comp_shape.f k t) (0, 0, 0) := by
  refine Ev.neg h2 (Ev.neg h5 (Ev.step (fun k => by rw [comp_shape.j0]) (Ev.neg (by simpa using h12) (Ev.neg h15 (Ev.neg h6 (Ev.now _))))))
theorem shape_1 {t : Int} (h : t = 2 ∨ t = 5 ∨ t = 12) : Ev (fun k => comp_shape.f k t) (0, 1, 0) := by
  rcases h with rfl | rfl | rfl <;> exact Ev.of (comp_shape.mono _) (k := 4) (by decide +kernel)
theorem shape_15 : Ev (fun k => comp_shape.f k 15) (2, 1, 0) := Ev.of (comp_shape.mono _) (k := 4) (by decide +kernel)
theorem shape_6 : Ev (fun k => comp_shape.f k 6) (0, 2, 20) := Ev.of (comp_shape.mono _) (k := 4) (by decide +kernel)
theorem may_eq (t : Int) (s : ByteArray) (h : s.size ≤ 9223372036854775000) : rdata_May.f t s = some (Rd.mayD t s) := by unfold rdata_May.f; rw [if_pos h]
theorem data_in {s : ByteArray} {i z t : Int} {r : ByteArray × Int} (hs : s.size ≤ 1000000) (h0 : 0 ≤ i) (h1 : 0 ≤ z) (h2 : i + z ≤ (s.size : Int)) (h : Ev (fun k => comp_Data.j0 k s i z t false) r) : Ev (fun k => comp_Data.f k s i z t) r := by
  refine Ev.neg (by omega) (Ev.neg (by omega) (Ev.neg (by omega) ?_))
  rw [Pu.w64 (x := (s.size : Int) - i) (by omega) (by omega), decide_eq_false (show ¬ z > (s.size : Int) - i by omega)]
  exact h
/-- Data of a type whose bytes are left as they are. -/
theorem data_plain {s : ByteArray} {i z : Nat} {t : Int} (hs : s.size ≤ 1000000) (h2 : i + z ≤ s.size) (hsh : Ev (fun k => comp_shape.f k t) (0, 0, 0)) (hm : Rd.mayD t (s.extract i (i + z)) = true) :
    Ev (fun k => comp_Data.f k s (i : Int) (z : Int) t) (s.extract i (i + z), 0) := by
  refine data_in hs (by omega) (by omega) (by omega) ?_
  refine Ev.step (fun k => by rw [comp_Data.j0]) (Ev.neg (by decide) ?_)
  rw [Pu.w64 (x := (i : Int) + (z : Int)) (by omega) (by omega)]
  refine Ev.pos (by omega) (Ev.pos (by omega) (Ev.pos (by omega) (Ev.bind hsh (Ev.neg (by decide) (Ev.call (may_eq _ _ ?_) ?_)))))
  · rw [ByteArray.size_extract]; omega
  rw [show ((i : Int) + (z : Int)).toNat = i + z by omega, Int.toNat_natCast, hm]
  exact Ev.pos rfl (Ev.some _ fun _ => rfl)
/-- Data with names in it. -/
theorem data_names {s ns : ByteArray} {i z a more q : Nat} {many t : Int} (hs : s.size ≤ 1000000) (hn : ns.size ≤ 600) (h2 : i + z ≤ s.size) (hsh : Ev (fun k => comp_shape.f k t) ((a : Int), many, (more : Int))) (hmn : 0 < many) (ham : a + more ≤ z)
    (hq : Ev (fun k => comp_names.f k s ((i + a : Nat) : Int) many) (ns, (q : Int), 0)) (hqz : q + more = i + z) (hm : Rd.mayD t (s.extract i (i + a) ++ ns ++ s.extract q (i + z)) = true) :
    Ev (fun k => comp_Data.f k s (i : Int) (z : Int) t) (s.extract i (i + a) ++ ns ++ s.extract q (i + z), 0) := by
  refine data_in hs (by omega) (by omega) (by omega) ?_
  refine Ev.step (fun k => by rw [comp_Data.j0]) (Ev.neg (by decide) ?_)
  rw [Pu.w64 (x := (i : Int) + (z : Int)) (by omega) (by omega)]
  refine Ev.pos (by omega) (Ev.pos (by omega) (Ev.pos (by omega) (Ev.bind hsh (Ev.pos (by show many > 0; omega) ?_))))
  dsimp only
  rw [Pu.w64 (x := (a : Int) + (more : Int)) (by omega) (by omega), Pu.w64 (x := (i : Int) + (a : Int)) (by omega) (by omega), show (i : Int) + (a : Int) = ((i + a : Nat) : Int) by omega]
  refine Ev.neg (by omega) (Ev.bind hq (Ev.pos rfl ?_))
  dsimp only
  rw [Pu.w64 (x := (i : Int) + (z : Int) - (more : Int)) (by omega) (by omega)]
  rw [show ((q : Int) != (i : Int) + (z : Int) - (more : Int)) = false by simp; omega]
  refine Ev.step (fun k => by rw [comp_Data.j1]) (Ev.neg (by decide) ?_)
  rw [Pu.w64 (x := (i : Int) + (a : Int)) (by omega) (by omega), show (i : Int) + (a : Int) = ((i + a : Nat) : Int) by omega, show (i : Int) + (z : Int) = ((i + z : Nat) : Int) by omega]
  simp only [Int.toNat_natCast]
  refine Ev.pos (by omega) (Ev.pos (by omega) (Ev.pos (by omega) (Ev.pos ?_ (Ev.pos (by omega) (Ev.pos (by omega) (Ev.pos (by omega) (Ev.pos ?_ (Ev.call (may_eq _ _ ?_) ?_))))))))
  · rw [ByteArray.size_extract]; omega
  · rw [ByteArray.size_append, ByteArray.size_extract, ByteArray.size_extract]; omega
  · rw [ByteArray.size_append, ByteArray.size_append, ByteArray.size_extract, ByteArray.size_extract]; omega
  rw [hm]
  exact Ev.pos rfl (Ev.some _ fun _ => rfl)
theorem name_plain {S n : ByteArray} {i : Nat} (hn : nameB n = true) (h : i + n.size ≤ S.size) (hS : S.size ≤ 16000) (he : S.extract i (i + n.size) = n) : Ev (fun k => comp_Name.f k S (i : Int)) (n, ((i + n.size : Nat) : Int), 0) :=
  (lies_plain hn h hS he).name (by omega) (name_first hn).2.1
theorem ext_ext (s : ByteArray) (i j a b : Nat) (h : i + b ≤ j) : (s.extract i j).extract a b = s.extract (i + a) (i + b) := by
  apply ext_of
  rw [ext_list, ext_list, ext_list]
  generalize s.data.toList = l
  rw [List.drop_take, List.drop_take, List.drop_take, List.drop_take, List.take_take, List.drop_drop, show min (b - a) (j - i - a) = i + b - (i + a) by omega]
theorem endN_name {s : ByteArray} {a : Nat} (h : 0 ≤ endN s a) : nameB (s.extract a (endN s a).toNat) = true := by
  unfold endN at h ⊢
  cases hz : zeroAt s a with
  | none => rw [hz] at h; dsimp only at h; exact absurd h (by decide)
  | some p =>
    rw [hz] at h
    dsimp only at h ⊢
    by_cases hb : nameB (s.extract a (p + 1)) = true
    · rw [if_pos hb, show ((p : Int) + 1).toNat = p + 1 by omega]; exact hb
    · rw [if_neg hb] at h; exact absurd h (by decide)
/-- Data that may be, and that lies uncompressed, is read. -/
theorem data_of {S d : ByteArray} {i : Nat} {t : Int} (hS : S.size ≤ 16000) (h : i + d.size ≤ S.size) (he : S.extract i (i + d.size) = d) (hm : Rd.mayD t d = true) : Ev (fun k => comp_Data.f k S (i : Int) (d.size : Int) t) (d, 0) := by
  have sub : ∀ a b, b ≤ d.size → S.extract (i + a) (i + b) = d.extract a b := fun a b hb => by rw [← ext_ext S i (i + d.size) a b (by omega), he]
  have hm0 := hm
  unfold Rd.mayD at hm
  by_cases c1 : t < 1
  · rw [if_pos c1] at hm; cases hm
  rw [if_neg c1] at hm
  by_cases c2 : 65535 < t
  · rw [if_pos c2] at hm; cases hm
  rw [if_neg c2] at hm
  by_cases c3 : 65535 < d.size
  · rw [if_pos c3] at hm; cases hm
  rw [if_neg c3] at hm
  by_cases k1 : t = 2 ∨ t = 5 ∨ t = 12
  · have hn : nameB d = true := by
      rcases k1 with rfl | rfl | rfl <;> simpa using hm
    have H := data_names (t := t) (s := S) (i := i) (z := d.size) (a := 0) (more := 0) (q := i + d.size) (by omega) (by have := (name_first hn).2.1; omega) h (shape_1 k1) (by decide) (by omega) (names_1 (name_plain hn h hS he) (name_first hn).2.1) (by omega)
    have e : S.extract i (i + 0) ++ d ++ S.extract (i + d.size) (i + d.size) = d := by simp
    rw [e] at H
    exact H hm0
  · by_cases k2 : t = 15
    · subst k2
      have hn : 2 ≤ d.size ∧ nameB (d.extract 2 d.size) = true := by simpa using hm
      have hz : (d.extract 2 d.size).size = d.size - 2 := by rw [ByteArray.size_extract]; omega
      have hb := (name_first hn.2).2.1
      have hp := name_plain (S := S) (i := i + 2) hn.2 (by omega) hS (by rw [hz, show i + 2 + (d.size - 2) = i + d.size by omega]; exact sub 2 d.size (Nat.le_refl _))
      rw [hz, show i + 2 + (d.size - 2) = i + d.size by omega] at hp
      have H := data_names (t := 15) (s := S) (i := i) (z := d.size) (a := 2) (more := 0) (q := i + d.size) (by omega) (by omega) h shape_15 (by decide) (by omega) (names_1 hp hb) (by omega)
      rw [show S.extract i (i + 2) = d.extract 0 2 from sub 0 2 hn.1, show S.extract (i + d.size) (i + d.size) = ⟨#[]⟩ by simp; rfl, ext_join d 0 2 d.size (by omega) hn.1, ext0, show d ++ (⟨#[]⟩ : ByteArray) = d from ByteArray.append_empty] at H
      exact H hm0
    · by_cases k3 : t = 6
      · subst k3
        have hn : Rd.soaB d = true := by simpa using hm
        unfold Rd.soaB at hn
        simp only [Bool.and_eq_true, decide_eq_true_eq] at hn
        obtain ⟨a0, a1, a2⟩ := hn
        obtain ⟨p, hp⟩ : ∃ p : Nat, endN d 0 = (p : Int) := ⟨(endN d 0).toNat, by omega⟩
        have n1 := endN_name a0
        have b1 := Rd.endN_bd a0
        rw [hp, Int.toNat_natCast] at a1 a2 n1
        rw [hp] at b1
        obtain ⟨q, hq⟩ : ∃ q : Nat, endN d p = (q : Int) := ⟨(endN d p).toNat, by omega⟩
        have n2 := endN_name a1
        have b2 := Rd.endN_bd a1
        rw [hq, Int.toNat_natCast] at n2
        rw [hq] at b2 a2
        have z1 : (d.extract 0 p).size = p := by rw [ByteArray.size_extract]; omega
        have z2 : (d.extract p q).size = q - p := by rw [ByteArray.size_extract]; omega
        have f1 := (name_first n1).2.1
        have f2 := (name_first n2).2.1
        have e1 := name_plain (S := S) (i := i) n1 (by omega) hS (by rw [z1]; exact sub 0 p (by omega))
        have e2 := name_plain (S := S) (i := i + p) n2 (by omega) hS (by rw [z2, show i + p + (q - p) = i + q by omega]; exact sub p q (by omega))
        rw [z1] at e1
        rw [z2, show i + p + (q - p) = i + q by omega] at e2
        have H := data_names (t := 6) (s := S) (i := i) (z := d.size) (a := 0) (more := 20) (q := i + q) (by omega) (by rw [ByteArray.size_append]; omega) h shape_6 (by decide) (by omega) (names_2 e1 e2 f1 f2) (by omega)
        rw [show S.extract i (i + 0) = ⟨#[]⟩ by simp; rfl, sub q d.size (Nat.le_refl _), show (⟨#[]⟩ : ByteArray) ++ (d.extract 0 p ++ d.extract p q) = d.extract 0 p ++ d.extract p q from ByteArray.empty_append, ext_join d 0 p q (by omega) (by omega), ext_join d 0 q d.size (by omega) (by omega), ext0] at H
        exact H hm0
      · have H := data_plain (t := t) (s := S) (i := i) (z := d.size) (by omega) h (shape_0 (fun e => k1 (.inl e)) (fun e => k1 (.inr (.inl e))) (fun e => k1 (.inr (.inr e))) k2 k3)
        rw [he] at H
        exact H hm0
/-! ### A question, a record -/
theorem num16_ok {s : ByteArray} {i : Nat} (h : i + 2 ≤ s.size) : numV ⟨(i : Int), false⟩ (u16V s (i : Int)) = (be2 s i, ⟨((i + 2 : Nat) : Int), false⟩) := by
  unfold numV u16V
  rw [if_pos (show 0 ≤ (i : Int) ∧ (i : Int) + 2 ≤ (s.size : Int) by omega), Int.toNat_natCast]
  simp
theorem num32_ok {s : ByteArray} {i : Nat} (h : i + 4 ≤ s.size) : numV ⟨(i : Int), false⟩ (u32V s (i : Int)) = (be4 s i, ⟨((i + 4 : Nat) : Int), false⟩) := by
  unfold numV u32V
  rw [if_pos (show 0 ≤ (i : Int) ∧ (i : Int) + 4 ≤ (s.size : Int) by omega), Int.toNat_natCast]
  simp
theorem quest_ev {S n : ByteArray} {i nx : Nat} (h : Ev (fun k => comp_Name.f k S (i : Int)) (n, (nx : Int), 0)) (hx : nx + 4 ≤ S.size) : Ev (fun k => questV k S ⟨(i : Int), false⟩) (⟨n, be2 S nx, be2 S (nx + 2)⟩, ⟨((nx + 4 : Nat) : Int), be2 S nx == 0⟩) := by
  unfold questV
  refine Ev.bind h ?_
  refine Ev.neg (by simp) (Ev.some _ fun _ => ?_)
  dsimp only
  rw [num16_ok (by omega)]
  dsimp only
  rw [num16_ok (i := nx + 2) (by omega)]
  simp
  omega
theorem rec_ev {S n d : ByteArray} {i nx z : Nat} (h : Ev (fun k => comp_Name.f k S (i : Int)) (n, (nx : Int), 0)) (ht : be2 S nx ≠ 0) (hS : S.size ≤ 16000) (hz : be2 S (nx + 8) = (z : Int)) (hx : nx + 10 + z ≤ S.size) (hd : Ev (fun k => comp_Data.f k S ((nx + 10 : Nat) : Int) (z : Int) (be2 S nx)) (d, 0)) :
    Ev (fun k => recV k S ⟨(i : Int), false⟩) (⟨n, be2 S nx, be2 S (nx + 2), be4 S (nx + 4), d⟩, ⟨((nx + 10 + z : Nat) : Int), false⟩) := by
  unfold recV
  have hq := quest_ev h (by omega)
  rw [show (be2 S nx == 0) = false by simpa using ht] at hq
  have e1 : recN1 S (⟨n, be2 S nx, be2 S (nx + 2)⟩, ⟨((nx + 4 : Nat) : Int), false⟩) = (be4 S (nx + 4), ⟨((nx + 4 + 4 : Nat) : Int), false⟩) := num32_ok (by omega)
  have e2 : recN2 S (⟨n, be2 S nx, be2 S (nx + 2)⟩, ⟨((nx + 4 : Nat) : Int), false⟩) = ((z : Int), ⟨((nx + 10 : Nat) : Int), false⟩) := by
    unfold recN2
    rw [e1]
    dsimp only
    rw [num16_ok (i := nx + 4 + 4) (by omega), hz]
  refine Ev.bind hq ?_
  simp only [e1, e2]
  refine Ev.bind hd ?_
  refine Ev.neg (by simp) (Ev.some _ fun _ => ?_)
  rw [Pu.w64 (by omega) (by omega)]
  congr 4
end Go.Proofs.Ytjklgdpffmaamaa.Wm

namespace Go.Proofs.Ytjklgdpffmaamaa.Wm
open Go.RowKit Go.PlainAid Go.Proofs.Ytjklgdpffmaamaa.Base Go.Proofs.Ytjklgdpffmaamaa.Oct Go.Proofs.Ytjklgdpffmaamaa.Nm Go.Proofs.Ytjklgdpffmaamaa.Wr Go.Proofs.Ytjklgdpffmaamaa.PCm Go.Proofs.Ytjklgdpffmaamaa.CompS Go.Proofs.Ytjklgdpffmaamaa.Pu
open Go.Proofs.YtjklgdpffmaamaaW.PrintWords (Ev bytesOf bytesOf_length LeO)
set_option linter.unusedVariables false
/-! ### The writer's state -/
theorem raw_ok {st : St} {s : ByteArray} (h : (rawSt st s).lg = false) : st.lg = false ∧ st.S.size + s.size ≤ 4096 ∧ rawSt st s = ⟨st.S ++ s, st.m, false⟩ := by
  unfold rawSt at h ⊢
  by_cases c : 4096 < st.S.size + s.size
  · rw [if_pos c] at h; cases h
  · rw [if_neg c] at h ⊢
    have h : st.lg = false := h
    exact ⟨h, by omega, by rw [h]⟩
theorem name_ok {st : St} {n : ByteArray} (h : (nameSt st n).lg = false) : nameB n = true ∧ st.lg = false ∧ st.S.size + (outN st.m n).size ≤ 4096 ∧ nameSt st n = ⟨st.S ++ outN st.m n, putN st.m n st.S.size, false⟩ := by
  unfold nameSt at h ⊢
  by_cases b : nameB n = true
  · rw [if_pos b] at h ⊢
    by_cases c : 4096 < st.S.size + (outN st.m n).size
    · rw [if_pos c] at h; cases h
    · rw [if_neg c] at h ⊢
      have h : st.lg = false := h
      exact ⟨b, h, by omega, by rw [h]⟩
  · rw [if_neg b] at h; cases h
/-- All is well with the writer: what it keeps lies where it says. -/
structure Good (st : St) : Prop where
  known : Known st.S st.m
  size : st.S.size ≤ 4096
  lg : st.lg = false
theorem known_more {S : ByteArray} {m : ByteArray → Option Int} (h : Known S m) (T : ByteArray) : Known (S ++ T) m := fun r t hr => by
  obtain ⟨i, nx, e, hi, hl⟩ := h r t hr
  exact ⟨i, nx, e, hi, hl.more T⟩
theorem Good.raw {st : St} (H : st.lg = false → Good st) {s : ByteArray} (h : (rawSt st s).lg = false) : Good (rawSt st s) := by
  obtain ⟨h1, h2, h3⟩ := raw_ok h
  rw [h3]
  exact ⟨known_more (H h1).known s, by show (st.S ++ s).size ≤ 4096; rw [ByteArray.size_append]; exact h2, rfl⟩
theorem name_size {n : ByteArray} (h : nameB n = true) : n.size ≤ 255 := (name_first h).2.1
theorem Good.name {st : St} (H : st.lg = false → Good st) {n : ByteArray} (h : (nameSt st n).lg = false) : Good (nameSt st n) := by
  obtain ⟨h0, h1, h2, h3⟩ := name_ok h
  have hn := name_size h0
  have hz := (H h1).size
  rw [h3]
  exact ⟨(put_known (H h1).known h0 (by omega)).2.2, by show (st.S ++ _).size ≤ 4096; rw [ByteArray.size_append]; exact h2, rfl⟩
/-! ### Numbers -/
theorem be2_mid (a b : ByteArray) (x : Int) (i : Nat) (hi : i = a.size) (h0 : 0 ≤ x) (h1 : x ≤ 65535) : be2 (a ++ p16 x ++ b) i = x := Hd.be2_at a b x i hi.symm h0 h1
theorem be4_left (s t : ByteArray) (i : Nat) (h : i + 4 ≤ s.size) : be4 (s ++ t) i = be4 s i := by
  unfold be4
  rw [bt_append_left _ _ _ (by omega), bt_append_left _ _ _ (by omega), bt_append_left _ _ _ (by omega), bt_append_left _ _ _ (by omega)]
theorem be4_right (s t : ByteArray) (i : Nat) (h : s.size ≤ i) : be4 (s ++ t) i = be4 t (i - s.size) := by
  unfold be4
  rw [bt_append_right _ _ _ h, bt_append_right _ _ _ (by omega), bt_append_right _ _ _ (by omega), bt_append_right _ _ _ (by omega)]
  rw [show i + 1 - s.size = i - s.size + 1 by omega, show i + 2 - s.size = i - s.size + 2 by omega, show i + 3 - s.size = i - s.size + 3 by omega]
theorem be4_p32 (x : Int) (h0 : 0 ≤ x) (h1 : x ≤ 4294967295) : be4 (p32 x) 0 = x := by
  unfold be4 p32
  rw [bt_nums _ 0 ((x / 16777216) % 256) rfl (by omega) (by omega), bt_nums _ 1 ((x / 65536) % 256) rfl (by omega) (by omega), bt_nums _ 2 ((x / 256) % 256) rfl (by omega) (by omega), bt_nums _ 3 (x % 256) rfl (by omega) (by omega)]
  omega
theorem be4_mid (a b : ByteArray) (x : Int) (i : Nat) (hi : i = a.size) (h0 : 0 ≤ x) (h1 : x ≤ 4294967295) : be4 (a ++ p32 x ++ b) i = x := by
  subst hi
  rw [ByteArray.append_assoc, be4_right _ _ _ (Nat.le_refl _), Nat.sub_self, be4_left _ _ _ (by rw [p32_size]; omega), be4_p32 x h0 h1]
theorem inB_iff {x lo hi : Int} : inB x lo hi = true ↔ lo ≤ x ∧ x ≤ hi := by unfold inB; simp
/-! ### A question -/
theorem qSt_ok {st : St} {n : ByteArray} {t c : Int} (h : (qSt st n t c).lg = false) : nameB n = true ∧ st.lg = false ∧ st.S.size + (outN st.m n).size + 4 ≤ 4096 ∧ qSt st n t c = ⟨st.S ++ outN st.m n ++ (p16 t ++ p16 c), putN st.m n st.S.size, false⟩ := by
  unfold qSt at h ⊢
  obtain ⟨h1, h2, h3⟩ := raw_ok h
  obtain ⟨k0, k1, k2, k3⟩ := name_ok h1
  rw [k3] at h2 h3 ⊢
  have z : (p16 t ++ p16 c).size = 4 := by rw [ByteArray.size_append, p16_size, p16_size]
  have h2 : (st.S ++ outN st.m n).size + (p16 t ++ p16 c).size ≤ 4096 := h2
  rw [ByteArray.size_append, z] at h2
  exact ⟨k0, k1, by omega, h3⟩
theorem Good.q {st : St} (H : st.lg = false → Good st) {n : ByteArray} {t c : Int} (h : (qSt st n t c).lg = false) : Good (qSt st n t c) := by
  unfold qSt at h ⊢
  exact Good.raw (fun k => Good.name H k) h
/-- Behind a name that was put: it is read there, in whatever goes on. -/
theorem name_read {st : St} (H : Good st) {n U : ByteArray} (hn : nameB n = true) (hz : (st.S ++ outN st.m n ++ U).size ≤ 16000) : Ev (fun k => comp_Name.f k (st.S ++ outN st.m n ++ U) (st.S.size : Int)) (n, ((st.S.size + (outN st.m n).size : Nat) : Int), 0) := by
  have hs := name_size hn
  have hS := H.size
  have L := (put_known H.known hn (by omega)).2.1.more U
  rw [ByteArray.size_append] at L
  exact L.name (by omega) hs
theorem q_read {st : St} (H : Good st) {q : Qn} (hm : qMay q = true) (h : (qStep st q).lg = false) (U : ByteArray) (hz : ((qStep st q).S ++ U).size ≤ 16000) :
    Ev (fun k => questV k ((qStep st q).S ++ U) ⟨(st.S.size : Int), false⟩) (q, ⟨((qStep st q).S.size : Int), false⟩) := by
  obtain ⟨n, t, c⟩ := q
  unfold qMay at hm
  simp only [Bool.and_eq_true, inB_iff] at hm
  obtain ⟨⟨hn, t1, t2⟩, c1, c2⟩ := hm
  obtain ⟨_, _, h2, h3⟩ := qSt_ok h
  have e3 : qStep st ⟨n, t, c⟩ = ⟨st.S ++ outN st.m n ++ (p16 t ++ p16 c), putN st.m n st.S.size, false⟩ := h3
  rw [e3] at hz ⊢
  dsimp only at hz ⊢
  have eS : st.S ++ outN st.m n ++ (p16 t ++ p16 c) ++ U = st.S ++ outN st.m n ++ (p16 t ++ (p16 c ++ U)) := by simp only [ByteArray.append_assoc]
  have zS : (st.S ++ outN st.m n ++ (p16 t ++ p16 c)).size = st.S.size + (outN st.m n).size + 4 := by simp only [ByteArray.size_append, p16_size]
  have zT : (st.S ++ outN st.m n ++ (p16 t ++ p16 c) ++ U).size = st.S.size + (outN st.m n).size + 4 + U.size := by rw [ByteArray.size_append, zS]
  have hr := name_read H (n := n) (U := p16 t ++ (p16 c ++ U)) hn (by rw [← eS]; exact hz)
  rw [← eS] at hr
  have E := quest_ev hr (by rw [zT]; omega)
  have b1 : be2 (st.S ++ outN st.m n ++ (p16 t ++ p16 c) ++ U) (st.S.size + (outN st.m n).size) = t := by
    rw [show st.S ++ outN st.m n ++ (p16 t ++ p16 c) ++ U = (st.S ++ outN st.m n) ++ p16 t ++ (p16 c ++ U) by simp only [ByteArray.append_assoc]]
    exact be2_mid _ _ _ _ (by rw [ByteArray.size_append]) (by omega) t2
  have b2 : be2 (st.S ++ outN st.m n ++ (p16 t ++ p16 c) ++ U) (st.S.size + (outN st.m n).size + 2) = c := by
    rw [show st.S ++ outN st.m n ++ (p16 t ++ p16 c) ++ U = (st.S ++ outN st.m n ++ p16 t) ++ p16 c ++ U by simp only [ByteArray.append_assoc]]
    exact be2_mid _ _ _ _ (by simp only [ByteArray.size_append, p16_size]) c1 c2
  rw [b1, b2, show (t == 0) = false by simp; omega] at E
  rw [zS]
  exact E
/-! ### A record -/
theorem rSt_ok {st : St} {r : Rr} (h : (rSt st r).lg = false) : nameB r.name = true ∧ st.lg = false ∧ st.S.size + (outN st.m r.name).size + 10 + r.data.size ≤ 4096 ∧
    rSt st r = ⟨st.S ++ outN st.m r.name ++ (p16 r.type ++ p16 r.cls) ++ (p32 r.ttl ++ p16 (r.data.size : Int) ++ r.data), putN st.m r.name st.S.size, false⟩ := by
  unfold rSt at h ⊢
  obtain ⟨h1, h2, h3⟩ := raw_ok h
  obtain ⟨k0, k1, k2, k3⟩ := qSt_ok h1
  rw [k3] at h2 h3 ⊢
  have z : (p32 r.ttl ++ p16 (r.data.size : Int) ++ r.data).size = 6 + r.data.size := by simp only [ByteArray.size_append, p16_size, p32_size]
  have h2 : (st.S ++ outN st.m r.name ++ (p16 r.type ++ p16 r.cls)).size + (p32 r.ttl ++ p16 (r.data.size : Int) ++ r.data).size ≤ 4096 := h2
  rw [z] at h2
  simp only [ByteArray.size_append, p16_size] at h2
  exact ⟨k0, k1, by omega, h3⟩
theorem Good.r {st : St} (H : st.lg = false → Good st) {r : Rr} (h : (rSt st r).lg = false) : Good (rSt st r) := by
  unfold rSt at h ⊢
  exact Good.raw (fun k => Good.q H k) h
theorem r_read {st : St} (H : Good st) {r : Rr} (hm : rMay r = true) (h : (rSt st r).lg = false) (U : ByteArray) (hz : ((rSt st r).S ++ U).size ≤ 16000) :
    Ev (fun k => recV k ((rSt st r).S ++ U) ⟨(st.S.size : Int), false⟩) (r, ⟨((rSt st r).S.size : Int), false⟩) := by
  obtain ⟨n, t, c, l, d⟩ := r
  unfold rMay at hm
  simp only [Bool.and_eq_true, inB_iff] at hm
  obtain ⟨⟨⟨⟨hn, t1, t2⟩, c1, c2⟩, l1, l2⟩, hd⟩ := hm
  obtain ⟨_, _, h2, h3⟩ := rSt_ok h
  dsimp only at h2 h3 hn hd t1 t2 c1 c2 l1 l2
  rw [h3] at hz ⊢
  dsimp only at hz ⊢
  generalize hT : st.S ++ outN st.m n ++ (p16 t ++ p16 c) ++ (p32 l ++ p16 (d.size : Int) ++ d) ++ U = T at hz ⊢
  have zA : (st.S ++ outN st.m n).size = st.S.size + (outN st.m n).size := ByteArray.size_append
  have zS : (st.S ++ outN st.m n ++ (p16 t ++ p16 c) ++ (p32 l ++ p16 (d.size : Int) ++ d)).size = st.S.size + (outN st.m n).size + 10 + d.size := by simp only [ByteArray.size_append, p16_size, p32_size]; omega
  have zT : T.size = st.S.size + (outN st.m n).size + 10 + d.size + U.size := by rw [← hT, ByteArray.size_append, zS]
  have hr := name_read H (n := n) (U := p16 t ++ (p16 c ++ (p32 l ++ (p16 (d.size : Int) ++ (d ++ U))))) hn
  rw [show st.S ++ outN st.m n ++ (p16 t ++ (p16 c ++ (p32 l ++ (p16 (d.size : Int) ++ (d ++ U))))) = T by rw [← hT]; simp only [ByteArray.append_assoc]] at hr
  have b1 : be2 T (st.S.size + (outN st.m n).size) = t := by
    rw [show T = (st.S ++ outN st.m n) ++ p16 t ++ (p16 c ++ (p32 l ++ (p16 (d.size : Int) ++ (d ++ U)))) by rw [← hT]; simp only [ByteArray.append_assoc]]
    exact be2_mid _ _ _ _ (by rw [ByteArray.size_append]) (by omega) t2
  have b2 : be2 T (st.S.size + (outN st.m n).size + 2) = c := by
    rw [show T = (st.S ++ outN st.m n ++ p16 t) ++ p16 c ++ (p32 l ++ (p16 (d.size : Int) ++ (d ++ U))) by rw [← hT]; simp only [ByteArray.append_assoc]]
    exact be2_mid _ _ _ _ (by simp only [ByteArray.size_append, p16_size]) c1 c2
  have b3 : be4 T (st.S.size + (outN st.m n).size + 4) = l := by
    rw [show T = (st.S ++ outN st.m n ++ p16 t ++ p16 c) ++ p32 l ++ (p16 (d.size : Int) ++ (d ++ U)) by rw [← hT]; simp only [ByteArray.append_assoc]]
    exact be4_mid _ _ _ _ (by simp only [ByteArray.size_append, p16_size]) l1 l2
  have b4 : be2 T (st.S.size + (outN st.m n).size + 8) = (d.size : Int) := by
    rw [show T = (st.S ++ outN st.m n ++ p16 t ++ p16 c ++ p32 l) ++ p16 (d.size : Int) ++ (d ++ U) by rw [← hT]; simp only [ByteArray.append_assoc]]
    exact be2_mid _ _ _ _ (by simp only [ByteArray.size_append, p16_size, p32_size]) (by omega) (by omega)
  have hD : T.extract (st.S.size + (outN st.m n).size + 10) (st.S.size + (outN st.m n).size + 10 + d.size) = d := by
    rw [show T = (st.S ++ outN st.m n ++ p16 t ++ p16 c ++ p32 l ++ p16 (d.size : Int)) ++ (d ++ U) by rw [← hT]; simp only [ByteArray.append_assoc]]
    have zz : (st.S ++ outN st.m n ++ p16 t ++ p16 c ++ p32 l ++ p16 (d.size : Int)).size = st.S.size + (outN st.m n).size + 10 := by simp only [ByteArray.size_append, p16_size, p32_size]
    rw [← zz, ext_right, ext_left _ _ _ _ (Nat.le_refl _), ext0]
  have E := rec_ev (S := T) (i := st.S.size) (nx := st.S.size + (outN st.m n).size) (z := d.size) (d := d) (hr hz) (by rw [b1]; omega) hz b4 (by rw [zT]; omega) (by rw [b1]; exact data_of hz (by rw [zT]; omega) hD hd)
  rw [b1, b2, b3] at E
  rw [zS]
  exact E
/-! ### Lists -/
theorem foldQ_lg : ∀ (qs : List Qn) (st : St), (qs.foldl qStep st).lg = false → st.lg = false
  | [], _, h => h
  | q :: qs, st, h => (qSt_ok (foldQ_lg qs _ h)).2.1
theorem foldR_lg : ∀ (rs : List Rr) (st : St), (rs.foldl rSt st).lg = false → st.lg = false
  | [], _, h => h
  | r :: rs, st, h => (rSt_ok (foldR_lg rs _ h)).2.1
theorem foldQ_good : ∀ (qs : List Qn) (st : St), (st.lg = false → Good st) → (qs.foldl qStep st).lg = false → Good (qs.foldl qStep st)
  | [], _, H, h => H h
  | q :: qs, st, H, h => foldQ_good qs _ (fun k => Good.q H k) h
theorem foldR_good : ∀ (rs : List Rr) (st : St), (st.lg = false → Good st) → (rs.foldl rSt st).lg = false → Good (rs.foldl rSt st)
  | [], _, H, h => H h
  | r :: rs, st, H, h => foldR_good rs _ (fun k => Good.r H k) h
theorem foldQ_more : ∀ (qs : List Qn) (st : St), (qs.foldl qStep st).lg = false → ∃ V, (qs.foldl qStep st).S = st.S ++ V
  | [], st, _ => ⟨⟨#[]⟩, ByteArray.append_empty.symm⟩
  | q :: qs, st, h => by
    obtain ⟨V, hV⟩ := foldQ_more qs _ h
    obtain ⟨_, _, _, e⟩ := qSt_ok (foldQ_lg qs _ h)
    have e : qStep st q = _ := e
    refine ⟨outN st.m q.name ++ (p16 q.type ++ p16 q.cls) ++ V, ?_⟩
    rw [List.foldl_cons, hV, e]
    simp only [ByteArray.append_assoc]
theorem foldR_more : ∀ (rs : List Rr) (st : St), (rs.foldl rSt st).lg = false → ∃ V, (rs.foldl rSt st).S = st.S ++ V
  | [], st, _ => ⟨⟨#[]⟩, ByteArray.append_empty.symm⟩
  | r :: rs, st, h => by
    obtain ⟨V, hV⟩ := foldR_more rs _ h
    obtain ⟨_, _, _, e⟩ := rSt_ok (foldR_lg rs _ h)
    refine ⟨outN st.m r.name ++ (p16 r.type ++ p16 r.cls) ++ (p32 r.ttl ++ p16 (r.data.size : Int) ++ r.data) ++ V, ?_⟩
    rw [List.foldl_cons, hV, e]
    simp only [ByteArray.append_assoc]
theorem loopQ_read (T : ByteArray) (hT : T.size ≤ 16000) : ∀ (qs : List Qn) (st : St) (acc : List Qn), Good st → (∀ q ∈ qs, qMay q = true) → (qs.foldl qStep st).lg = false → (∃ U, T = (qs.foldl qStep st).S ++ U) →
    Ev (fun k => loopQ k T qs.length ⟨(st.S.size : Int), false⟩ acc) (acc ++ qs, ⟨((qs.foldl qStep st).S.size : Int), false⟩)
  | [], st, acc, _, _, _, _ => by simpa [loopQ] using Ev.now (acc, (⟨(st.S.size : Int), false⟩ : Rs))
  | q :: qs, st, acc, H, hm, h, hU => by
    have h1 := foldQ_lg qs _ h
    obtain ⟨V, hV⟩ := foldQ_more qs _ h
    obtain ⟨U, hU⟩ := hU
    have eT : T = (qStep st q).S ++ (V ++ U) := by rw [hU, List.foldl_cons, hV, ByteArray.append_assoc]
    have E := q_read H (hm q (List.mem_cons_self ..)) h1 (V ++ U) (by rw [← eT]; exact hT)
    rw [← eT] at E
    show Ev (fun k => if (false : Bool) = true then _ else _) _
    refine Ev.neg (by decide) (Ev.bind E ?_)
    have := loopQ_read T hT qs (qStep st q) (acc ++ [q]) (Good.q (fun _ => H) h1) (fun x hx => hm x (List.mem_cons_of_mem _ hx)) h ⟨U, hU⟩
    rw [List.append_assoc, List.singleton_append] at this
    exact this
theorem loopR_read (T : ByteArray) (hT : T.size ≤ 16000) : ∀ (rs : List Rr) (st : St) (acc : List Rr), Good st → (∀ r ∈ rs, rMay r = true) → (rs.foldl rSt st).lg = false → (∃ U, T = (rs.foldl rSt st).S ++ U) →
    Ev (fun k => loopR k T rs.length ⟨(st.S.size : Int), false⟩ acc) (acc ++ rs, ⟨((rs.foldl rSt st).S.size : Int), false⟩)
  | [], st, acc, _, _, _, _ => by simpa [loopR] using Ev.now (acc, (⟨(st.S.size : Int), false⟩ : Rs))
  | r :: rs, st, acc, H, hm, h, hU => by
    have h1 := foldR_lg rs _ h
    obtain ⟨V, hV⟩ := foldR_more rs _ h
    obtain ⟨U, hU⟩ := hU
    have eT : T = (rSt st r).S ++ (V ++ U) := by rw [hU, List.foldl_cons, hV, ByteArray.append_assoc]
    have E := r_read H (hm r (List.mem_cons_self ..)) h1 (V ++ U) (by rw [← eT]; exact hT)
    rw [← eT] at E
    show Ev (fun k => if (false : Bool) = true then _ else _) _
    refine Ev.neg (by decide) (Ev.bind E ?_)
    have := loopR_read T hT rs (rSt st r) (acc ++ [r]) (Good.r (fun _ => H) h1) (fun x hx => hm x (List.mem_cons_of_mem _ hx)) h ⟨U, hU⟩
    rw [List.append_assoc, List.singleton_append] at this
    exact this
theorem listQ_read {T : ByteArray} (hT : T.size ≤ 16000) {qs : List Qn} {st : St} (hl : qs.length ≤ 64) (H : Good st) (hm : ∀ q ∈ qs, qMay q = true) (h : (qs.foldl qStep st).lg = false) (hU : ∃ U, T = (qs.foldl qStep st).S ++ U) :
    Ev (fun k => listQ k T qs.length ⟨(st.S.size : Int), false⟩) (qs, ⟨((qs.foldl qStep st).S.size : Int), false⟩) := by
  unfold listQ
  rw [show (false || decide (64 < qs.length)) = false by simp; omega]
  exact loopQ_read T hT qs st [] H hm h hU
theorem listR_read {T : ByteArray} (hT : T.size ≤ 16000) {rs : List Rr} {st : St} (hl : rs.length ≤ 64) (H : Good st) (hm : ∀ r ∈ rs, rMay r = true) (h : (rs.foldl rSt st).lg = false) (hU : ∃ U, T = (rs.foldl rSt st).S ++ U) :
    Ev (fun k => listR k T rs.length ⟨(st.S.size : Int), false⟩) (rs, ⟨((rs.foldl rSt st).S.size : Int), false⟩) := by
  unfold listR
  rw [show (false || decide (64 < rs.length)) = false by simp; omega]
  exact loopR_read T hT rs st [] H hm h hU
end Go.Proofs.Ytjklgdpffmaamaa.Wm
