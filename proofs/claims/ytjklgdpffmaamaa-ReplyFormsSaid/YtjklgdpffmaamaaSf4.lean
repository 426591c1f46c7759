/- A name in bytes: the document reads what comp.Name reads. Plain: no program in sight. -/
import Derived.Test.YtjklgdpffmaamaaSf1
import Derived.Test.YtjklgdpffmaamaaSf2
import Derived.Test.YtjklgdpffmaamaaSf3
namespace Go.Proofs.Ytjklgdpffmaamaa.PRf
open Go.RowKit Go.Proofs.YtjklgdpffmaamaaW.PrintWords Go.Proofs.YtjklgdpffmaamaaW.PrintLast Go.Proofs.YtjklgdpffmaamaaW.PrintMore
attribute [local go_sem] max2_int min2_int max_two min_two max_three min_three max_four min_four   -- for this text's walks alone
set_option linter.unusedVariables false
set_option linter.unusedSimpArgs false

/-! ### wimpleref4_Name: function 79 -/
mutual
def wimpleref4_Name.l0 : Nat → ByteArray → Int → ByteArray → Int → Int → Option (ByteArray × Int × Int)
  | 0, _, _, _, _, _ => none
  | k + 1, x0, x1, x7, x8, x9 => if x1 < (x0.size : Int) then (wimpleref4_Name.j1 k x0 x1 x7 x8 x9 (decide ((x7.size : Int) ≤ 255))) else (wimpleref4_Name.j1 k x0 x1 x7 x8 x9 false)
def wimpleref4_Name.j1 : Nat → ByteArray → Int → ByteArray → Int → Int → Bool → Option (ByteArray × Int × Int)
  | 0, _, _, _, _, _, _ => none
  | k + 1, x0, x1, x7, x8, x9, x25 => if x25 = true then (if 0 ≤ x1 then (if x1 < (x0.size : Int) then (if (wrap64 (bt x0 x1)) = 0 then (if x9 < 0 then (if x7.size + 1 ≤ 9223372036854775807 then ((wimpleref1_May.f (x7 ++ (⟨#[0]⟩ : ByteArray))).bind fun t104 => (if t104 = true then (some (x7 ++ (⟨#[0]⟩ : ByteArray), wrap64 (x1 + 1), 0)) else (some ((⟨#[]⟩ : ByteArray), 0, 500)))) else (none)) else (if x7.size + 1 ≤ 9223372036854775807 then ((wimpleref1_May.f (x7 ++ (⟨#[0]⟩ : ByteArray))).bind fun t105 => (if t105 = true then (some (x7 ++ (⟨#[0]⟩ : ByteArray), x9, 0)) else (some ((⟨#[]⟩ : ByteArray), 0, 500)))) else (none))) else (if (wrap64 (bt x0 x1)) > 191 then ((wimpleref1_Num.f k x0 x1 2).bind fun bt106 => (if bt106.2.2 = 0 then (wimpleref4_Name.j2 k x0 x7 x9 bt106.1 bt106.2.1 (decide ((Go.bits .and .i64 bt106.1 16383) ≥ x8))) else (wimpleref4_Name.j2 k x0 x7 x9 bt106.1 bt106.2.1 true))) else (if (wrap64 (bt x0 x1)) > 63 then (some ((⟨#[]⟩ : ByteArray), 0, 500)) else (if (wrap64 (bt x0 x1)) > (wrap64 ((wrap64 ((x0.size : Int) - x1)) - 1)) then (some ((⟨#[]⟩ : ByteArray), 0, 500)) else (if x1 ≤ (wrap64 ((wrap64 (x1 + 1)) + (wrap64 (bt x0 x1)))) then (if (wrap64 ((wrap64 (x1 + 1)) + (wrap64 (bt x0 x1)))) ≤ (x0.size : Int) then (if x7.size + (x0.extract (x1 : Int).toNat ((wrap64 ((wrap64 (x1 + 1)) + (wrap64 (bt x0 x1)))) : Int).toNat).size ≤ 9223372036854775807 then (wimpleref4_Name.l0 k x0 (wrap64 ((wrap64 (x1 + 1)) + (wrap64 (bt x0 x1)))) (x7 ++ (x0.extract (x1 : Int).toNat ((wrap64 ((wrap64 (x1 + 1)) + (wrap64 (bt x0 x1)))) : Int).toNat)) x8 x9) else (none)) else (none)) else (none)))))) else (none)) else (none)) else (some ((⟨#[]⟩ : ByteArray), 0, 500))
def wimpleref4_Name.j2 : Nat → ByteArray → ByteArray → Int → Int → Int → Bool → Option (ByteArray × Int × Int)
  | 0, _, _, _, _, _, _ => none
  | k + 1, x0, x7, x9, x11, x12, x74 => if x74 = true then (some ((⟨#[]⟩ : ByteArray), 0, 500)) else (if x9 < 0 then (wimpleref4_Name.l0 k x0 (Go.bits .and .i64 x11 16383) x7 (Go.bits .and .i64 x11 16383) x12) else (wimpleref4_Name.l0 k x0 (Go.bits .and .i64 x11 16383) x7 (Go.bits .and .i64 x11 16383) x9))
end
def wimpleref4_Name.f (k : Nat) (a0 : ByteArray) (a1 : Int) : Option (ByteArray × Int × Int) := if a1 < 0 then (some ((⟨#[]⟩ : ByteArray), 0, 500)) else (wimpleref4_Name.l0 k a0 a1 (⟨#[]⟩ : ByteArray) a1 (-1))
theorem wimpleref4_Name.mono_l : ∀ k, (∀ y0 y1 y2 y3 y4, LeO (wimpleref4_Name.l0 k y0 y1 y2 y3 y4) (wimpleref4_Name.l0 (k + 1) y0 y1 y2 y3 y4)) ∧ (∀ y0 y1 y2 y3 y4 y5, LeO (wimpleref4_Name.j1 k y0 y1 y2 y3 y4 y5) (wimpleref4_Name.j1 (k + 1) y0 y1 y2 y3 y4 y5)) ∧ (∀ y0 y1 y2 y3 y4 y5, LeO (wimpleref4_Name.j2 k y0 y1 y2 y3 y4 y5) (wimpleref4_Name.j2 (k + 1) y0 y1 y2 y3 y4 y5))
  | 0 => ⟨fun _ _ _ _ _ r h => by simp [wimpleref4_Name.l0] at h, fun _ _ _ _ _ _ r h => by simp [wimpleref4_Name.j1] at h, fun _ _ _ _ _ _ r h => by simp [wimpleref4_Name.j2] at h⟩
  | k + 1 => by
    obtain ⟨ih0, ih1, ih2⟩ := wimpleref4_Name.mono_l k
    refine ⟨?_, ?_, ?_⟩
    · intro y0 y1 y2 y3 y4
      unfold wimpleref4_Name.l0
      repeat' first
      | (with_reducible exact ih0 _ _ _ _ _)
      | (with_reducible exact ih1 _ _ _ _ _ _)
      | (with_reducible exact ih2 _ _ _ _ _ _)
      | (with_reducible exact wimpleref1_Num.mono _ _ _ _)
      | (with_reducible exact LeO.refl _)
      | (with_reducible exact LeO.none _)
      | (with_reducible refine LeO.ite ?_ ?_)
      | (with_reducible refine LeO.bind ?_ (fun _ => ?_))
      | exact ih0 _ _ _ _ _
      | exact ih1 _ _ _ _ _ _
      | exact ih2 _ _ _ _ _ _
      | exact wimpleref1_Num.mono _ _ _ _
      | exact LeO.none _
      | refine LeO.ite ?_ ?_
      | refine LeO.bind ?_ (fun _ => ?_)
    · intro y0 y1 y2 y3 y4 y5
      unfold wimpleref4_Name.j1
      repeat' first
      | (with_reducible exact ih0 _ _ _ _ _)
      | (with_reducible exact ih1 _ _ _ _ _ _)
      | (with_reducible exact ih2 _ _ _ _ _ _)
      | (with_reducible exact wimpleref1_Num.mono _ _ _ _)
      | (with_reducible exact LeO.refl _)
      | (with_reducible exact LeO.none _)
      | (with_reducible refine LeO.ite ?_ ?_)
      | (with_reducible refine LeO.bind ?_ (fun _ => ?_))
      | exact ih0 _ _ _ _ _
      | exact ih1 _ _ _ _ _ _
      | exact ih2 _ _ _ _ _ _
      | exact wimpleref1_Num.mono _ _ _ _
      | exact LeO.none _
      | refine LeO.ite ?_ ?_
      | refine LeO.bind ?_ (fun _ => ?_)
    · intro y0 y1 y2 y3 y4 y5
      unfold wimpleref4_Name.j2
      repeat' first
      | (with_reducible exact ih0 _ _ _ _ _)
      | (with_reducible exact ih1 _ _ _ _ _ _)
      | (with_reducible exact ih2 _ _ _ _ _ _)
      | (with_reducible exact wimpleref1_Num.mono _ _ _ _)
      | (with_reducible exact LeO.refl _)
      | (with_reducible exact LeO.none _)
      | (with_reducible refine LeO.ite ?_ ?_)
      | (with_reducible refine LeO.bind ?_ (fun _ => ?_))
      | exact ih0 _ _ _ _ _
      | exact ih1 _ _ _ _ _ _
      | exact ih2 _ _ _ _ _ _
      | exact wimpleref1_Num.mono _ _ _ _
      | exact LeO.none _
      | refine LeO.ite ?_ ?_
      | refine LeO.bind ?_ (fun _ => ?_)
theorem wimpleref4_Name.mono : ∀ a0 a1 k, LeO (wimpleref4_Name.f k a0 a1) (wimpleref4_Name.f (k + 1) a0 a1) := by
  intro a0 a1 k
  obtain ⟨ih0, ih1, ih2⟩ := wimpleref4_Name.mono_l k
  unfold wimpleref4_Name.f
  repeat' first
      | (with_reducible exact ih0 _ _ _ _ _)
      | (with_reducible exact ih1 _ _ _ _ _ _)
      | (with_reducible exact ih2 _ _ _ _ _ _)
      | (with_reducible exact wimpleref1_Num.mono _ _ _ _)
      | (with_reducible exact LeO.refl _)
      | (with_reducible exact LeO.none _)
      | (with_reducible refine LeO.ite ?_ ?_)
      | (with_reducible refine LeO.bind ?_ (fun _ => ?_))
      | exact ih0 _ _ _ _ _
      | exact ih1 _ _ _ _ _ _
      | exact ih2 _ _ _ _ _ _
      | exact wimpleref1_Num.mono _ _ _ _
      | exact LeO.none _
      | refine LeO.ite ?_ ?_
      | refine LeO.bind ?_ (fun _ => ?_)
set_option maxHeartbeats 8000000 in
set_option maxRecDepth 100000 in
theorem wimpleref4_Name.calls (k : Nat) (a0 : ByteArray) (a1 : Int) (r1 : ByteArray) (r2 : Int) (r3 : Int) (w : World) (h : wimpleref4_Name.f k a0 a1 = some (r1, r2, r3)) :
    Calls Try.prog 79 #[.string a0, .int .i64 a1] w fun e w' => e = .returned (.tuple #[.string r1, .int .i64 r2, .int .i64 r3]) ∧ Below w.heap.size w w' := by
  have HB := Aside0.mk (Below.refl w.heap.size w)
  have H : (if a1 < 0 then (some ((⟨#[]⟩ : ByteArray), 0, 500)) else (wimpleref4_Name.l0 k a0 a1 (⟨#[]⟩ : ByteArray) a1 (-1))) = some (r1, r2, r3) := h
  clear h
  by_cases c3 : a1 < 0
  · rw [if_pos c3] at H
    have c3b0 : decide (a1 < 0) = true := decide_eq_true c3
    clear c3
    simp only [Option.some.injEq, Prod.mk.injEq] at H
    obtain ⟨rfl, rfl, rfl⟩ := H
    go_enter Try.func79, Try.ntmps79
    go_wp2
    go_ret3
    exact ⟨by first | rfl | (simp [errW_none, errW_some] <;> rfl) | (simp [*, errW_none, errW_some] <;> rfl), by repeat (first | (with_reducible first | exact HB.out | apply below_alloc | apply pw_below_drewN | apply below_drew1) | exact HB.out)⟩
  · rw [if_neg c3] at H
    have c3b0 : decide (a1 < 0) = false := decide_eq_false c3
    clear c3
    have H' := Aside0.mk H
    clear H
    go_enter Try.func79, Try.ntmps79
    go_wp2
    go_loopg [1, 7, 8, 9] k (fun kq v1 v7 v8 v9 w' => ∃ (x1_1 : Int) (x7_1 : ByteArray) (x8_1 : Int) (x9_1 : Int), v1 = .int .i64 x1_1 ∧ v7 = .string x7_1 ∧ v8 = .int .i64 x8_1 ∧ v9 = .int .i64 x9_1 ∧ Aside0 (wimpleref4_Name.l0 kq a0 x1_1 x7_1 x8_1 x9_1 = some (r1, r2, r3)) ∧ Aside0 (kq ≤ k) ∧ Aside0 (Below w.heap.size w w'))
    case atStart => exact ⟨(a1), ((⟨#[]⟩ : ByteArray)), (a1), ((-1)), (by first | rfl | (simp; done) | (simp [*]; done)), (by first | rfl | (simp; done) | (simp [*]; done)), (by first | rfl | (simp; done) | (simp [*]; done)), (by first | rfl | (simp; done) | (simp [*]; done)), H', ⟨Nat.le_refl _⟩, ⟨by repeat (first | (with_reducible first | exact HB.out | apply below_alloc | apply pw_below_drewN | apply below_drew1) | exact HB.out)⟩⟩
    case round =>
      clear H'
      try clear p2
      try clear c3
      try clear c3b0
      obtain ⟨x1_1, x7_1, x8_1, x9_1, rfl, rfl, rfl, rfl, HA, HK1, HB⟩ := hrel
      cases gk with
      | zero => exact absurd HA.out (by simp [wimpleref4_Name.l0])
      | succ k1 =>
        have H := HA.out
        clear HA
        simp only [wimpleref4_Name.l0] at H
        have HC4 := Aside0.mk H
        clear H
        go_upto_region 5 with (fail)
        go_cut [25] (fun v25 wc => ∃ (kq : Nat) (x25_3 : Bool), v25 = .bool x25_3 ∧ Aside0 (wimpleref4_Name.j1 kq a0 x1_1 x7_1 x8_1 x9_1 x25_3 = some (r1, r2, r3)) ∧ Aside0 (kq ≤ k1) ∧ Aside0 (Below w.heap.size w wc))
        case first =>
          have H := HC4.out
          clear HC4
          by_cases c5 : x1_1 < (a0.size : Int)
          · rw [if_pos c5] at H
            have c5b0 : decide (x1_1 < (a0.size : Int)) = true := decide_eq_true c5
            clear c5
            (first | rw [c5b0] | (simp only [i64_w, i32_w]; rw [c5b0]) | skip)
            have H' := Aside0.mk H
            clear H
            go_wp2
            go_meet
            case rel => exact ⟨_, (decide ((x7_1.size : Int) ≤ 255)), (by first | rfl | (simp; done) | (simp [*]; done)), H', ⟨by have := HK1.out; first | omega | exact Nat.le_refl _⟩, ⟨by repeat (first | (with_reducible first | exact HB.out | apply below_alloc | apply pw_below_drewN | apply below_drew1) | exact HB.out)⟩⟩
          · rw [if_neg c5] at H
            have c5b0 : decide (x1_1 < (a0.size : Int)) = false := decide_eq_false c5
            clear c5
            (first | rw [c5b0] | (simp only [i64_w, i32_w]; rw [c5b0]) | skip)
            have H' := Aside0.mk H
            clear H
            go_wp2
            go_meet
            case rel => exact ⟨_, (false), (by first | rfl | (simp; done) | (simp [*]; done)), H', ⟨by have := HK1.out; first | omega | exact Nat.le_refl _⟩, ⟨by repeat (first | (with_reducible first | exact HB.out | apply below_alloc | apply pw_below_drewN | apply below_drew1) | exact HB.out)⟩⟩
        case rest =>
          clear HC4
          try clear p2
          try clear c3
          try clear c3b0
          try clear c5
          try clear c5b0
          try clear p2
          obtain ⟨kq, x25_3, rfl, HA, HJ3, HB⟩ := hcut
          cases kq with
          | zero => exact absurd HA.out (by simp [wimpleref4_Name.j1])
          | succ kj3 =>
            have H := HA.out
            clear HA
            simp only [wimpleref4_Name.j1] at H
            by_cases c6 : x25_3 = true
            · subst c6
              have H1 : (if 0 ≤ x1_1 then (if x1_1 < (a0.size : Int) then (if (wrap64 (bt a0 x1_1)) = 0 then (if x9_1 < 0 then (if x7_1.size + 1 ≤ 9223372036854775807 then ((wimpleref1_May.f (x7_1 ++ (⟨#[0]⟩ : ByteArray))).bind fun t104 => (if t104 = true then (some (x7_1 ++ (⟨#[0]⟩ : ByteArray), wrap64 (x1_1 + 1), 0)) else (some ((⟨#[]⟩ : ByteArray), 0, 500)))) else (none)) else (if x7_1.size + 1 ≤ 9223372036854775807 then ((wimpleref1_May.f (x7_1 ++ (⟨#[0]⟩ : ByteArray))).bind fun t105 => (if t105 = true then (some (x7_1 ++ (⟨#[0]⟩ : ByteArray), x9_1, 0)) else (some ((⟨#[]⟩ : ByteArray), 0, 500)))) else (none))) else (if (wrap64 (bt a0 x1_1)) > 191 then ((wimpleref1_Num.f kj3 a0 x1_1 2).bind fun bt106 => (if bt106.2.2 = 0 then (wimpleref4_Name.j2 kj3 a0 x7_1 x9_1 bt106.1 bt106.2.1 (decide ((Go.bits .and .i64 bt106.1 16383) ≥ x8_1))) else (wimpleref4_Name.j2 kj3 a0 x7_1 x9_1 bt106.1 bt106.2.1 true))) else (if (wrap64 (bt a0 x1_1)) > 63 then (some ((⟨#[]⟩ : ByteArray), 0, 500)) else (if (wrap64 (bt a0 x1_1)) > (wrap64 ((wrap64 ((a0.size : Int) - x1_1)) - 1)) then (some ((⟨#[]⟩ : ByteArray), 0, 500)) else (if x1_1 ≤ (wrap64 ((wrap64 (x1_1 + 1)) + (wrap64 (bt a0 x1_1)))) then (if (wrap64 ((wrap64 (x1_1 + 1)) + (wrap64 (bt a0 x1_1)))) ≤ (a0.size : Int) then (if x7_1.size + (a0.extract (x1_1 : Int).toNat ((wrap64 ((wrap64 (x1_1 + 1)) + (wrap64 (bt a0 x1_1)))) : Int).toNat).size ≤ 9223372036854775807 then (wimpleref4_Name.l0 kj3 a0 (wrap64 ((wrap64 (x1_1 + 1)) + (wrap64 (bt a0 x1_1)))) (x7_1 ++ (a0.extract (x1_1 : Int).toNat ((wrap64 ((wrap64 (x1_1 + 1)) + (wrap64 (bt a0 x1_1)))) : Int).toNat)) x8_1 x9_1) else (none)) else (none)) else (none)))))) else (none)) else (none)) = some (r1, r2, r3) := by rw [if_pos rfl] at H; exact H
              clear H
              have H := H1
              clear H1
              by_cases c7 : 0 ≤ x1_1
              · rw [if_pos c7] at H
                have c7b0 : decide (0 ≤ x1_1) = true := decide_eq_true c7
                clear c7
                by_cases c8 : x1_1 < (a0.size : Int)
                · rw [if_pos c8] at H
                  have c8b0 : decide (x1_1 < (a0.size : Int)) = true := decide_eq_true c8
                  clear c8
                  by_cases c10 : (wrap64 (bt a0 x1_1)) = 0
                  · rw [if_pos c10] at H
                    have c10b0 : ((wrap64 (bt a0 x1_1)) == 0) = true := beq_iff_eq.mpr c10
                    have c10b1 : ((wrap64 (bt a0 x1_1)) != 0) = false := bne_eq_false_iff_eq.mpr c10
                    clear c10
                    by_cases c11 : x9_1 < 0
                    · rw [if_pos c11] at H
                      have c11b0 : decide (x9_1 < 0) = true := decide_eq_true c11
                      clear c11
                      by_cases c12 : x7_1.size + 1 ≤ 9223372036854775807
                      · rw [if_pos c12] at H
                        have c12b0 := eq_true c12
                        have c12b1 : decide (x7_1.size + 1 ≤ 9223372036854775807) = true := decide_eq_true c12
                        try have c12b2 : (9223372036854775807 < x7_1.size + 1) = False := eq_false (Nat.not_lt.2 c12)
                        replace H := Option.bind_eq_some_iff.mp H
                        obtain ⟨t104, A130, H⟩ := H
                        replace H : (if t104 = true then (some (x7_1 ++ (⟨#[0]⟩ : ByteArray), wrap64 (x1_1 + 1), 0)) else (some ((⟨#[]⟩ : ByteArray), 0, 500))) = some (r1, r2, r3) := H
                        have A13 := Aside0.mk A130
                        clear A130
                        by_cases c14 : t104 = true
                        · subst c14
                          have H1 : (some (x7_1 ++ (⟨#[0]⟩ : ByteArray), wrap64 (x1_1 + 1), 0)) = some (r1, r2, r3) := by rw [if_pos rfl] at H; exact H
                          clear H
                          have H := H1
                          clear H1
                          simp only [Option.some.injEq, Prod.mk.injEq] at H
                          obtain ⟨rfl, rfl, rfl⟩ := H
                          have p9 : 0 ≤ (x1_1 : Int) := of_decide_eq_true (by first | (with_reducible assumption) | assumption)
                          have q9 : x1_1 < (a0.size : Int) := of_decide_eq_true (by first | (with_reducible assumption) | assumption)
                          have hx9 := bt_at a0 x1_1
                          replace p9 := eq_true p9
                          replace q9 := eq_true q9
                          go_wp2_with (first | ((with_reducible refine gate_dst (N := 53) rfl ?_); (try (refine gate_guard (by rfl) ?_; dsimp only)); (with_reducible refine gate_callee (f := 32) rfl ?_); refine goesL_ (some 53) rfl rfl Try.func32 (by kernel_rfl) rfl #[.string (x7_1 ++ (⟨#[0]⟩ : ByteArray))] rfl (by (try simp only [List.map_toArray, List.map_cons, List.map_nil]); first | done | rfl | (simp only [List.length_drop, List.length_take]; rfl)) ?_; (with_reducible refine (wimpleref1_May.calls (x7_1 ++ (⟨#[0]⟩ : ByteArray)) true _ A13.out).mono ?_); rintro e w15 ⟨rfl, hb⟩; refine ⟨_, rfl, ?_⟩; have n0_ := Aside0.mk (below_step (by repeat (first | (with_reducible first | exact HB.out | apply below_alloc | apply pw_below_drewN | apply below_drew1) | exact HB.out)) hb); clear HB; have HB := n0_; clear n0_; (try clear hb); (try clear hb2); (try clear hk); (try clear hi)))
                          go_ret3
                          exact ⟨by first | rfl | (simp [errW_none, errW_some] <;> rfl) | (simp [*, errW_none, errW_some] <;> rfl), by repeat (first | (with_reducible first | exact HB.out | apply below_alloc | apply pw_below_drewN | apply below_drew1) | exact HB.out)⟩
                        · replace c14 := Bool.eq_false_iff.mpr c14
                          subst c14
                          have H1 : (some ((⟨#[]⟩ : ByteArray), 0, 500)) = some (r1, r2, r3) := by rw [if_neg (show ¬ (false = true) by decide)] at H; exact H
                          clear H
                          have H := H1
                          clear H1
                          simp only [Option.some.injEq, Prod.mk.injEq] at H
                          obtain ⟨rfl, rfl, rfl⟩ := H
                          have p9 : 0 ≤ (x1_1 : Int) := of_decide_eq_true (by first | (with_reducible assumption) | assumption)
                          have q9 : x1_1 < (a0.size : Int) := of_decide_eq_true (by first | (with_reducible assumption) | assumption)
                          have hx9 := bt_at a0 x1_1
                          replace p9 := eq_true p9
                          replace q9 := eq_true q9
                          go_wp2_with (first | ((with_reducible refine gate_dst (N := 53) rfl ?_); (try (refine gate_guard (by rfl) ?_; dsimp only)); (with_reducible refine gate_callee (f := 32) rfl ?_); refine goesL_ (some 53) rfl rfl Try.func32 (by kernel_rfl) rfl #[.string (x7_1 ++ (⟨#[0]⟩ : ByteArray))] rfl (by (try simp only [List.map_toArray, List.map_cons, List.map_nil]); first | done | rfl | (simp only [List.length_drop, List.length_take]; rfl)) ?_; (with_reducible refine (wimpleref1_May.calls (x7_1 ++ (⟨#[0]⟩ : ByteArray)) false _ A13.out).mono ?_); rintro e w16 ⟨rfl, hb⟩; refine ⟨_, rfl, ?_⟩; have n0_ := Aside0.mk (below_step (by repeat (first | (with_reducible first | exact HB.out | apply below_alloc | apply pw_below_drewN | apply below_drew1) | exact HB.out)) hb); clear HB; have HB := n0_; clear n0_; (try clear hb); (try clear hb2); (try clear hk); (try clear hi)))
                          go_ret3
                          exact ⟨by first | rfl | (simp [errW_none, errW_some] <;> rfl) | (simp [*, errW_none, errW_some] <;> rfl), by repeat (first | (with_reducible first | exact HB.out | apply below_alloc | apply pw_below_drewN | apply below_drew1) | exact HB.out)⟩
                      · rw [if_neg c12] at H
                        exact absurd H (by simp)
                    · rw [if_neg c11] at H
                      have c11b0 : decide (x9_1 < 0) = false := decide_eq_false c11
                      clear c11
                      by_cases c17 : x7_1.size + 1 ≤ 9223372036854775807
                      · rw [if_pos c17] at H
                        have c17b0 := eq_true c17
                        have c17b1 : decide (x7_1.size + 1 ≤ 9223372036854775807) = true := decide_eq_true c17
                        try have c17b2 : (9223372036854775807 < x7_1.size + 1) = False := eq_false (Nat.not_lt.2 c17)
                        replace H := Option.bind_eq_some_iff.mp H
                        obtain ⟨t105, A180, H⟩ := H
                        replace H : (if t105 = true then (some (x7_1 ++ (⟨#[0]⟩ : ByteArray), x9_1, 0)) else (some ((⟨#[]⟩ : ByteArray), 0, 500))) = some (r1, r2, r3) := H
                        have A18 := Aside0.mk A180
                        clear A180
                        by_cases c19 : t105 = true
                        · subst c19
                          have H1 : (some (x7_1 ++ (⟨#[0]⟩ : ByteArray), x9_1, 0)) = some (r1, r2, r3) := by rw [if_pos rfl] at H; exact H
                          clear H
                          have H := H1
                          clear H1
                          simp only [Option.some.injEq, Prod.mk.injEq] at H
                          obtain ⟨rfl, rfl, rfl⟩ := H
                          have p9 : 0 ≤ (x1_1 : Int) := of_decide_eq_true (by first | (with_reducible assumption) | assumption)
                          have q9 : x1_1 < (a0.size : Int) := of_decide_eq_true (by first | (with_reducible assumption) | assumption)
                          have hx9 := bt_at a0 x1_1
                          replace p9 := eq_true p9
                          replace q9 := eq_true q9
                          go_wp2_with (first | ((with_reducible refine gate_dst (N := 53) rfl ?_); (try (refine gate_guard (by rfl) ?_; dsimp only)); (with_reducible refine gate_callee (f := 32) rfl ?_); refine goesL_ (some 53) rfl rfl Try.func32 (by kernel_rfl) rfl #[.string (x7_1 ++ (⟨#[0]⟩ : ByteArray))] rfl (by (try simp only [List.map_toArray, List.map_cons, List.map_nil]); first | done | rfl | (simp only [List.length_drop, List.length_take]; rfl)) ?_; (with_reducible refine (wimpleref1_May.calls (x7_1 ++ (⟨#[0]⟩ : ByteArray)) true _ A18.out).mono ?_); rintro e w20 ⟨rfl, hb⟩; refine ⟨_, rfl, ?_⟩; have n0_ := Aside0.mk (below_step (by repeat (first | (with_reducible first | exact HB.out | apply below_alloc | apply pw_below_drewN | apply below_drew1) | exact HB.out)) hb); clear HB; have HB := n0_; clear n0_; (try clear hb); (try clear hb2); (try clear hk); (try clear hi)))
                          go_ret3
                          exact ⟨by first | rfl | (simp [errW_none, errW_some] <;> rfl) | (simp [*, errW_none, errW_some] <;> rfl), by repeat (first | (with_reducible first | exact HB.out | apply below_alloc | apply pw_below_drewN | apply below_drew1) | exact HB.out)⟩
                        · replace c19 := Bool.eq_false_iff.mpr c19
                          subst c19
                          have H1 : (some ((⟨#[]⟩ : ByteArray), 0, 500)) = some (r1, r2, r3) := by rw [if_neg (show ¬ (false = true) by decide)] at H; exact H
                          clear H
                          have H := H1
                          clear H1
                          simp only [Option.some.injEq, Prod.mk.injEq] at H
                          obtain ⟨rfl, rfl, rfl⟩ := H
                          have p9 : 0 ≤ (x1_1 : Int) := of_decide_eq_true (by first | (with_reducible assumption) | assumption)
                          have q9 : x1_1 < (a0.size : Int) := of_decide_eq_true (by first | (with_reducible assumption) | assumption)
                          have hx9 := bt_at a0 x1_1
                          replace p9 := eq_true p9
                          replace q9 := eq_true q9
                          go_wp2_with (first | ((with_reducible refine gate_dst (N := 53) rfl ?_); (try (refine gate_guard (by rfl) ?_; dsimp only)); (with_reducible refine gate_callee (f := 32) rfl ?_); refine goesL_ (some 53) rfl rfl Try.func32 (by kernel_rfl) rfl #[.string (x7_1 ++ (⟨#[0]⟩ : ByteArray))] rfl (by (try simp only [List.map_toArray, List.map_cons, List.map_nil]); first | done | rfl | (simp only [List.length_drop, List.length_take]; rfl)) ?_; (with_reducible refine (wimpleref1_May.calls (x7_1 ++ (⟨#[0]⟩ : ByteArray)) false _ A18.out).mono ?_); rintro e w21 ⟨rfl, hb⟩; refine ⟨_, rfl, ?_⟩; have n0_ := Aside0.mk (below_step (by repeat (first | (with_reducible first | exact HB.out | apply below_alloc | apply pw_below_drewN | apply below_drew1) | exact HB.out)) hb); clear HB; have HB := n0_; clear n0_; (try clear hb); (try clear hb2); (try clear hk); (try clear hi)))
                          go_ret3
                          exact ⟨by first | rfl | (simp [errW_none, errW_some] <;> rfl) | (simp [*, errW_none, errW_some] <;> rfl), by repeat (first | (with_reducible first | exact HB.out | apply below_alloc | apply pw_below_drewN | apply below_drew1) | exact HB.out)⟩
                      · rw [if_neg c17] at H
                        exact absurd H (by simp)
                  · rw [if_neg c10] at H
                    have c10b0 : ((wrap64 (bt a0 x1_1)) == 0) = false := beq_eq_false_iff_ne.mpr c10
                    have c10b1 : ((wrap64 (bt a0 x1_1)) != 0) = true := bne_iff_ne.mpr c10
                    by_cases c22 : (wrap64 (bt a0 x1_1)) > 191
                    · rw [if_pos c22] at H
                      have c22b0 : decide (191 < (wrap64 (bt a0 x1_1))) = true := decide_eq_true c22
                      clear c22
                      replace H := Option.bind_eq_some_iff.mp H
                      obtain ⟨⟨t106, t107, t108⟩, A230, H⟩ := H
                      replace H : (if t108 = 0 then (wimpleref4_Name.j2 kj3 a0 x7_1 x9_1 t106 t107 (decide ((Go.bits .and .i64 t106 16383) ≥ x8_1))) else (wimpleref4_Name.j2 kj3 a0 x7_1 x9_1 t106 t107 true)) = some (r1, r2, r3) := H
                      have A23 := Aside0.mk A230
                      clear A230
                      have HC24 := Aside0.mk H
                      clear H
                      have p9 : 0 ≤ (x1_1 : Int) := of_decide_eq_true (by first | (with_reducible assumption) | assumption)
                      have q9 : x1_1 < (a0.size : Int) := of_decide_eq_true (by first | (with_reducible assumption) | assumption)
                      have hx9 := bt_at a0 x1_1
                      replace p9 := eq_true p9
                      replace q9 := eq_true q9
                      go_upto_region 18 with (first | ((with_reducible refine gate_dst (N := 63) rfl ?_); (try (refine gate_guard (by rfl) ?_; dsimp only)); (with_reducible refine gate_callee (f := 54) rfl ?_); refine goesL_ (some 63) rfl rfl Try.func54 (by kernel_rfl) rfl #[.string a0, .int .i64 x1_1, .int .i64 2] rfl (by (try simp only [List.map_toArray, List.map_cons, List.map_nil]); first | done | rfl | (simp only [List.length_drop, List.length_take]; rfl)) ?_; (with_reducible refine (wimpleref1_Num.calls kj3 a0 x1_1 2 t106 t107 t108 _ A23.out).mono ?_); rintro e w' ⟨rfl, ⟨nd, rfl⟩⟩; refine ⟨_, rfl, ?_⟩))
                      (try simp only [Act.put, List.setIfInBounds_toArray, List.set_cons_zero, List.set_cons_succ])
                      go_cut [74] (fun v74 wc => ∃ (kq : Nat) (x74_23 : Bool), v74 = .bool x74_23 ∧ Aside0 (wimpleref4_Name.j2 kq a0 x7_1 x9_1 t106 t107 x74_23 = some (r1, r2, r3)) ∧ Aside0 (kq ≤ kj3) ∧ Aside0 (Below w.heap.size w wc))
                      case first =>
                        have H := HC24.out
                        clear HC24
                        by_cases c25 : t108 = 0
                        · rw [if_pos c25] at H
                          have c25b0 : (t108 == 0) = true := beq_iff_eq.mpr c25
                          have c25b1 : (t108 != 0) = false := bne_eq_false_iff_eq.mpr c25
                          clear c25
                          (first | rw [c25b0] | (simp only [i64_w, i32_w]; rw [c25b0]) | skip)
                          have H' := Aside0.mk H
                          clear H
                          go_wp2
                          go_meet
                          case rel => exact ⟨_, (decide ((Go.bits .and .i64 t106 16383) ≥ x8_1)), (by first | rfl | (simp; done) | (simp [*]; done)), H', ⟨by have := HK1.out; have := HJ3.out; first | omega | exact Nat.le_refl _⟩, ⟨by repeat (first | (with_reducible first | exact HB.out | apply below_alloc | apply pw_below_drewN | apply below_drew1) | exact HB.out)⟩⟩
                        · rw [if_neg c25] at H
                          have c25b0 : (t108 == 0) = false := beq_eq_false_iff_ne.mpr c25
                          have c25b1 : (t108 != 0) = true := bne_iff_ne.mpr c25
                          (first | rw [c25b0] | (simp only [i64_w, i32_w]; rw [c25b0]) | skip)
                          have H' := Aside0.mk H
                          clear H
                          go_wp2
                          go_meet
                          case rel => exact ⟨_, (true), (by first | rfl | (simp; done) | (simp [*]; done)), H', ⟨by have := HK1.out; have := HJ3.out; first | omega | exact Nat.le_refl _⟩, ⟨by repeat (first | (with_reducible first | exact HB.out | apply below_alloc | apply pw_below_drewN | apply below_drew1) | exact HB.out)⟩⟩
                      case rest =>
                        clear HC24
                        try clear c1
                        try clear c2
                        try clear p2
                        try clear c3
                        try clear c3b0
                        try clear c5
                        try clear c5b0
                        try clear c6
                        try clear p6
                        try clear c7
                        try clear c7b0
                        try clear c8
                        try clear c8b0
                        try clear p9
                        try clear q9
                        try clear hx9
                        try clear c10
                        try clear c10b0
                        try clear c10b1
                        try clear c11
                        try clear c11b0
                        try clear c12
                        try clear c12b0
                        try clear c12b1
                        try clear c12b2
                        try clear c14
                        try clear c17
                        try clear c17b0
                        try clear c17b1
                        try clear c17b2
                        try clear c19
                        try clear c22
                        try clear c22b0
                        try clear c25
                        try clear c25b0
                        try clear c25b1
                        try clear p2
                        try clear p9
                        try clear q9
                        obtain ⟨kq, x74_23, rfl, HA, HJ23, HB⟩ := hcut
                        cases kq with
                        | zero => exact absurd HA.out (by simp [wimpleref4_Name.j2])
                        | succ kj23 =>
                          have H := HA.out
                          clear HA
                          simp only [wimpleref4_Name.j2] at H
                          by_cases c26 : x74_23 = true
                          · subst c26
                            have H1 : (some ((⟨#[]⟩ : ByteArray), 0, 500)) = some (r1, r2, r3) := by rw [if_pos rfl] at H; exact H
                            clear H
                            have H := H1
                            clear H1
                            simp only [Option.some.injEq, Prod.mk.injEq] at H
                            obtain ⟨rfl, rfl, rfl⟩ := H
                            go_wp2
                            go_ret3
                            exact ⟨by first | rfl | (simp [errW_none, errW_some] <;> rfl) | (simp [*, errW_none, errW_some] <;> rfl), by repeat (first | (with_reducible first | exact HB.out | apply below_alloc | apply pw_below_drewN | apply below_drew1) | exact HB.out)⟩
                          · replace c26 := Bool.eq_false_iff.mpr c26
                            subst c26
                            have H1 : (if x9_1 < 0 then (wimpleref4_Name.l0 kj23 a0 (Go.bits .and .i64 t106 16383) x7_1 (Go.bits .and .i64 t106 16383) t107) else (wimpleref4_Name.l0 kj23 a0 (Go.bits .and .i64 t106 16383) x7_1 (Go.bits .and .i64 t106 16383) x9_1)) = some (r1, r2, r3) := by rw [if_neg (show ¬ (false = true) by decide)] at H; exact H
                            clear H
                            have H := H1
                            clear H1
                            by_cases c27 : x9_1 < 0
                            · rw [if_pos c27] at H
                              have c27b0 : decide (x9_1 < 0) = true := decide_eq_true c27
                              clear c27
                              have H' := Aside0.mk H
                              clear H
                              go_wp2
                              go_roundg kj23
                              case measure => have := HK1.out; have := HJ3.out; have := HJ23.out; omega
                              case rel => exact ⟨(Go.bits .and .i64 t106 16383), (x7_1), (Go.bits .and .i64 t106 16383), (t107), (by first | rfl | (simp; done) | (simp [*]; done)), (by first | rfl | (simp; done) | (simp [*]; done)), (by first | rfl | (simp; done) | (simp [*]; done)), (by first | rfl | (simp; done) | (simp [*]; done)), H', ⟨by have := HK1.out; have := HJ3.out; have := HJ23.out; omega⟩, ⟨by repeat (first | (with_reducible first | exact HB.out | apply below_alloc | apply pw_below_drewN | apply below_drew1) | exact HB.out)⟩⟩
                            · rw [if_neg c27] at H
                              have c27b0 : decide (x9_1 < 0) = false := decide_eq_false c27
                              clear c27
                              have H' := Aside0.mk H
                              clear H
                              go_wp2
                              go_roundg kj23
                              case measure => have := HK1.out; have := HJ3.out; have := HJ23.out; omega
                              case rel => exact ⟨(Go.bits .and .i64 t106 16383), (x7_1), (Go.bits .and .i64 t106 16383), (x9_1), (by first | rfl | (simp; done) | (simp [*]; done)), (by first | rfl | (simp; done) | (simp [*]; done)), (by first | rfl | (simp; done) | (simp [*]; done)), (by first | rfl | (simp; done) | (simp [*]; done)), H', ⟨by have := HK1.out; have := HJ3.out; have := HJ23.out; omega⟩, ⟨by repeat (first | (with_reducible first | exact HB.out | apply below_alloc | apply pw_below_drewN | apply below_drew1) | exact HB.out)⟩⟩
                    · rw [if_neg c22] at H
                      have c22b0 : decide (191 < (wrap64 (bt a0 x1_1))) = false := decide_eq_false c22
                      clear c22
                      by_cases c28 : (wrap64 (bt a0 x1_1)) > 63
                      · rw [if_pos c28] at H
                        have c28b0 : decide (63 < (wrap64 (bt a0 x1_1))) = true := decide_eq_true c28
                        clear c28
                        simp only [Option.some.injEq, Prod.mk.injEq] at H
                        obtain ⟨rfl, rfl, rfl⟩ := H
                        have p9 : 0 ≤ (x1_1 : Int) := of_decide_eq_true (by first | (with_reducible assumption) | assumption)
                        have q9 : x1_1 < (a0.size : Int) := of_decide_eq_true (by first | (with_reducible assumption) | assumption)
                        have hx9 := bt_at a0 x1_1
                        replace p9 := eq_true p9
                        replace q9 := eq_true q9
                        go_wp2
                        go_ret3
                        exact ⟨by first | rfl | (simp [errW_none, errW_some] <;> rfl) | (simp [*, errW_none, errW_some] <;> rfl), by repeat (first | (with_reducible first | exact HB.out | apply below_alloc | apply pw_below_drewN | apply below_drew1) | exact HB.out)⟩
                      · rw [if_neg c28] at H
                        have c28b0 : decide (63 < (wrap64 (bt a0 x1_1))) = false := decide_eq_false c28
                        clear c28
                        by_cases c29 : (wrap64 (bt a0 x1_1)) > (wrap64 ((wrap64 ((a0.size : Int) - x1_1)) - 1))
                        · rw [if_pos c29] at H
                          have c29b0 : decide ((wrap64 ((wrap64 ((a0.size : Int) - x1_1)) - 1)) < (wrap64 (bt a0 x1_1))) = true := decide_eq_true c29
                          clear c29
                          simp only [Option.some.injEq, Prod.mk.injEq] at H
                          obtain ⟨rfl, rfl, rfl⟩ := H
                          have p9 : 0 ≤ (x1_1 : Int) := of_decide_eq_true (by first | (with_reducible assumption) | assumption)
                          have q9 : x1_1 < (a0.size : Int) := of_decide_eq_true (by first | (with_reducible assumption) | assumption)
                          have hx9 := bt_at a0 x1_1
                          replace p9 := eq_true p9
                          replace q9 := eq_true q9
                          go_wp2
                          go_ret3
                          exact ⟨by first | rfl | (simp [errW_none, errW_some] <;> rfl) | (simp [*, errW_none, errW_some] <;> rfl), by repeat (first | (with_reducible first | exact HB.out | apply below_alloc | apply pw_below_drewN | apply below_drew1) | exact HB.out)⟩
                        · rw [if_neg c29] at H
                          have c29b0 : decide ((wrap64 ((wrap64 ((a0.size : Int) - x1_1)) - 1)) < (wrap64 (bt a0 x1_1))) = false := decide_eq_false c29
                          clear c29
                          have c30b0 := eq_true (of_decide_eq_true (by first | (with_reducible assumption) | assumption) : 0 ≤ x1_1)
                          by_cases c31 : x1_1 ≤ (wrap64 ((wrap64 (x1_1 + 1)) + (wrap64 (bt a0 x1_1))))
                          · rw [if_pos c31] at H
                            have c31b0 := eq_true c31
                            have c31b1 : decide (x1_1 ≤ (wrap64 ((wrap64 (x1_1 + 1)) + (wrap64 (bt a0 x1_1))))) = true := decide_eq_true c31
                            by_cases c32 : (wrap64 ((wrap64 (x1_1 + 1)) + (wrap64 (bt a0 x1_1)))) ≤ (a0.size : Int)
                            · rw [if_pos c32] at H
                              have c32b0 := eq_true c32
                              have c32b1 : decide ((wrap64 ((wrap64 (x1_1 + 1)) + (wrap64 (bt a0 x1_1)))) ≤ (a0.size : Int)) = true := decide_eq_true c32
                              by_cases c33 : x7_1.size + (a0.extract (x1_1 : Int).toNat ((wrap64 ((wrap64 (x1_1 + 1)) + (wrap64 (bt a0 x1_1)))) : Int).toNat).size ≤ 9223372036854775807
                              · rw [if_pos c33] at H
                                have c33b0 := eq_true c33
                                have c33b1 : decide (x7_1.size + (a0.extract (x1_1 : Int).toNat ((wrap64 ((wrap64 (x1_1 + 1)) + (wrap64 (bt a0 x1_1)))) : Int).toNat).size ≤ 9223372036854775807) = true := decide_eq_true c33
                                try have c33b2 : (9223372036854775807 < x7_1.size + (a0.extract (x1_1 : Int).toNat ((wrap64 ((wrap64 (x1_1 + 1)) + (wrap64 (bt a0 x1_1)))) : Int).toNat).size) = False := eq_false (Nat.not_lt.2 c33)
                                have H' := Aside0.mk H
                                clear H
                                have p9 : 0 ≤ (x1_1 : Int) := of_decide_eq_true (by first | (with_reducible assumption) | assumption)
                                have q9 : x1_1 < (a0.size : Int) := of_decide_eq_true (by first | (with_reducible assumption) | assumption)
                                have hx9 := bt_at a0 x1_1
                                replace p9 := eq_true p9
                                replace q9 := eq_true q9
                                go_wp2
                                go_roundg kj3
                                case measure => have := HK1.out; have := HJ3.out; omega
                                case rel => exact ⟨(wrap64 ((wrap64 (x1_1 + 1)) + (wrap64 (bt a0 x1_1)))), (x7_1 ++ (a0.extract (x1_1 : Int).toNat ((wrap64 ((wrap64 (x1_1 + 1)) + (wrap64 (bt a0 x1_1)))) : Int).toNat)), (x8_1), (x9_1), (by first | rfl | (simp; done) | (simp [*]; done)), (by first | rfl | (simp; done) | (simp [*]; done)), (by first | rfl | (simp; done) | (simp [*]; done)), (by first | rfl | (simp; done) | (simp [*]; done)), H', ⟨by have := HK1.out; have := HJ3.out; omega⟩, ⟨by repeat (first | (with_reducible first | exact HB.out | apply below_alloc | apply pw_below_drewN | apply below_drew1) | exact HB.out)⟩⟩
                              · rw [if_neg c33] at H
                                exact absurd H (by simp)
                            · rw [if_neg c32] at H
                              exact absurd H (by simp)
                          · rw [if_neg c31] at H
                            exact absurd H (by simp)
                · rw [if_neg c8] at H
                  exact absurd H (by simp)
              · rw [if_neg c7] at H
                exact absurd H (by simp)
            · replace c6 := Bool.eq_false_iff.mpr c6
              subst c6
              have H1 : (some ((⟨#[]⟩ : ByteArray), 0, 500)) = some (r1, r2, r3) := by rw [if_neg (show ¬ (false = true) by decide)] at H; exact H
              clear H
              have H := H1
              clear H1
              simp only [Option.some.injEq, Prod.mk.injEq] at H
              obtain ⟨rfl, rfl, rfl⟩ := H
              go_wp2
              go_ret3
              exact ⟨by first | rfl | (simp [errW_none, errW_some] <;> rfl) | (simp [*, errW_none, errW_some] <;> rfl), by repeat (first | (with_reducible first | exact HB.out | apply below_alloc | apply pw_below_drewN | apply below_drew1) | exact HB.out)⟩

/-! ### wimpleref4_DataMay: function 98 -/
def wimpleref4_DataMay.f (a0 : Int) (a1 : ByteArray) : Option (Bool) := if a1.size ≤ 9223372036854775000 then some (Go.Proofs.Ytjklgdpffmaamaa.Rd.mayD a0 a1) else none
set_option maxHeartbeats 8000000 in
set_option maxRecDepth 100000 in
theorem wimpleref4_DataMay.calls (a0 : Int) (a1 : ByteArray) (r : Bool) (w : World) (h : wimpleref4_DataMay.f a0 a1 = some r) :
    Calls Try.prog 98 #[.int .i64 a0, .string a1] w fun e w' => e = .returned (.bool r) ∧ Below w.heap.size w w' := by
  unfold wimpleref4_DataMay.f at h
  split at h
  · rename_i hs
    simp only [Option.some.injEq] at h
    subst h
    exact Go.Proofs.Ytjklgdpffmaamaa.Rd.rdmay a0 a1 w hs
  · cases h

end Go.Proofs.Ytjklgdpffmaamaa.PRf

namespace Go.Proofs.Ytjklgdpffmaamaa.Wm
open Go.RowKit Go.PlainAid Go.Proofs.Ytjklgdpffmaamaa.Base Go.Proofs.Ytjklgdpffmaamaa.Oct Go.Proofs.Ytjklgdpffmaamaa.Nm Go.Proofs.Ytjklgdpffmaamaa.Wr Go.Proofs.Ytjklgdpffmaamaa.CompS Go.Proofs.Ytjklgdpffmaamaa.Pu
open Go.Proofs.Ytjklgdpffmaamaa.PCm (comp_Name.f comp_Name.l0 comp_Data.f comp_names.f comp_shape.f)
open Go.Proofs.Ytjklgdpffmaamaa.PRf (wimpleref1_Num.f wimpleref1_Num.l0 wimpleref1_Num.j0 wimpleref4_Name.f wimpleref4_Name.l0 wimpleref4_Name.j1 wimpleref4_Name.j2 wimpleref1_May.f)
open Go.Proofs.YtjklgdpffmaamaaW.PrintWords (Ev bytesOf bytesOf_length LeO)
set_option linter.unusedVariables false
/-! ### Numbers -/
theorem rn_step {s : ByteArray} {i j : Nat} {n x : Int} {r : Int × Int × Int} (hs : s.size ≤ 1000000) (h : i + j < s.size) (hj : (j : Int) < n) (h0 : 0 ≤ x) (h1 : x ≤ 16777215)
    (k : Ev (fun k => wimpleref1_Num.l0 k s (i : Int) n (x * 256 + bt s (i + j)) ((j + 1 : Nat) : Int)) r) : Ev (fun k => wimpleref1_Num.l0 k s (i : Int) n x (j : Int)) r := by
  have r0 := bt_nonneg s (i + j)
  have r1 := bt_le s (i + j)
  refine Ev.step (fun k => by rw [wimpleref1_Num.l0]) (Ev.pos hj ?_)
  rw [Pu.w64 (x := (i : Int) + (j : Int)) (by omega) (by omega), show (i : Int) + (j : Int) = ((i + j : Nat) : Int) by omega, bt_is, Pu.w64 (x := x * 256) (by omega) (by omega), Pu.w64 (x := bt s (i + j)) (by omega) (by omega),
    Pu.or_shl8 _ _ h0 (by omega) r0 (by omega), Pu.w64 (x := (j : Int) + 1) (by omega) (by omega), show (j : Int) + 1 = ((j + 1 : Nat) : Int) by omega]
  exact Ev.pos (by omega) (Ev.pos (by omega) k)
theorem rn_end {s : ByteArray} {i : Nat} {j n x : Int} (h : n ≤ j) (hi : i ≤ 1000000) (hn : 0 ≤ n) (hn2 : n ≤ 4) : Ev (fun k => wimpleref1_Num.l0 k s (i : Int) n x j) (x, (i : Int) + n, 0) := by
  refine Ev.step (fun k => by rw [wimpleref1_Num.l0]) (Ev.neg (by omega) ?_)
  rw [Pu.w64 (x := (i : Int) + n) (by omega) (by omega)]
  exact Ev.some _ fun _ => rfl
theorem rn_in {s : ByteArray} {i : Nat} {n : Int} {r : Int × Int × Int} (hs : s.size ≤ 1000000) (hn : 0 ≤ n) (h : (i : Int) + n ≤ (s.size : Int)) (k : Ev (fun k => wimpleref1_Num.l0 k s (i : Int) n 0 0) r) : Ev (fun k => wimpleref1_Num.f k s (i : Int) n) r := by
  refine Ev.neg (by omega) (Ev.neg (by omega) ?_)
  rw [Pu.w64 (x := (s.size : Int) - (i : Int)) (by omega) (by omega), decide_eq_false (by omega)]
  exact Ev.step (fun k => by rw [wimpleref1_Num.j0]) (Ev.neg (by simp) k)
theorem rn_cut {s : ByteArray} {i : Nat} {n : Int} (hs : s.size ≤ 1000000) (hn : 0 ≤ n) (hn2 : n ≤ 4) (h : (s.size : Int) < (i : Int) + n) : Ev (fun k => wimpleref1_Num.f k s (i : Int) n) (0, 0, 300) := by
  refine Ev.neg (by omega) ?_
  by_cases hi : (i : Int) > (s.size : Int)
  · exact Ev.pos hi (Ev.step (fun k => by rw [wimpleref1_Num.j0]) (Ev.pos rfl (Ev.some _ fun _ => rfl)))
  · refine Ev.neg hi ?_
    rw [Pu.w64 (x := (s.size : Int) - (i : Int)) (by omega) (by omega), decide_eq_true (by omega)]
    exact Ev.step (fun k => by rw [wimpleref1_Num.j0]) (Ev.pos rfl (Ev.some _ fun _ => rfl))
theorem rnum2 {s : ByteArray} {i : Nat} (hs : s.size ≤ 1000000) (h : i + 2 ≤ s.size) : Ev (fun k => wimpleref1_Num.f k s (i : Int) 2) (be2 s i, ((i + 2 : Nat) : Int), 0) := by
  have r0 := bt_nonneg s i
  have r1 := bt_le s i
  refine rn_in hs (by decide) (by omega) (rn_step (j := 0) hs (by omega) (by decide) (by decide) (by decide) ?_)
  refine rn_step (j := 1) hs (by omega) (by decide) (by rw [Nat.add_zero]; omega) (by rw [Nat.add_zero]; omega) ?_
  have := rn_end (s := s) (i := i) (j := ((1 + 1 : Nat) : Int)) (n := 2) (x := (0 * 256 + bt s (i + 0)) * 256 + bt s (i + 1)) (by decide) (by omega) (by decide) (by decide)
  rw [Nat.add_zero, Int.zero_mul, Int.zero_add] at this ⊢
  exact this
theorem rnum4 {s : ByteArray} {i : Nat} (hs : s.size ≤ 1000000) (h : i + 4 ≤ s.size) : Ev (fun k => wimpleref1_Num.f k s (i : Int) 4) (be4 s i, ((i + 4 : Nat) : Int), 0) := by
  have r0 := bt_nonneg s i
  have r1 := bt_le s i
  have q0 := bt_nonneg s (i + 1)
  have q1 := bt_le s (i + 1)
  have p0 := bt_nonneg s (i + 2)
  have p1 := bt_le s (i + 2)
  refine rn_in hs (by decide) (by omega) (rn_step (j := 0) hs (by omega) (by decide) (by decide) (by decide) ?_)
  rw [Nat.add_zero, Int.zero_mul, Int.zero_add]
  refine rn_step (j := 1) hs (by omega) (by decide) (by omega) (by omega) ?_
  refine rn_step (j := 2) hs (by omega) (by decide) (by omega) (by omega) ?_
  refine rn_step (j := 3) hs (by omega) (by decide) (by omega) (by omega) ?_
  exact rn_end (s := s) (i := i) (j := ((3 + 1 : Nat) : Int)) (n := 4) (by decide) (by omega) (by decide) (by decide)
/-! ### A name, round by round -/
theorem rl_end {s : ByteArray} {i : Int} {out : ByteArray} {bg bh : Int} (h : (s.size : Int) ≤ i) : Ev (fun k => wimpleref4_Name.l0 k s i out bg bh) err := by
  refine Ev.step (fun k => by rw [wimpleref4_Name.l0]) (Ev.neg (by omega) ?_)
  exact Ev.step (fun k => by rw [wimpleref4_Name.j1]) (Ev.neg (by simp) (Ev.some _ fun _ => rfl))
theorem rl_over {s : ByteArray} {i : Int} {out : ByteArray} {bg bh : Int} (h : 255 < out.size) : Ev (fun k => wimpleref4_Name.l0 k s i out bg bh) err := by
  by_cases hi : i < (s.size : Int)
  · refine Ev.step (fun k => by rw [wimpleref4_Name.l0]) (Ev.pos hi ?_)
    rw [decide_eq_false (show ¬ (out.size : Int) ≤ 255 by omega)]
    exact Ev.step (fun k => by rw [wimpleref4_Name.j1]) (Ev.neg (by simp) (Ev.some _ fun _ => rfl))
  · exact rl_end (by omega)
section
variable {s : ByteArray} {i : Nat} {out : ByteArray} {bg bh : Int} {b c : Nat} {r : ByteArray × Int × Int}
theorem rl_zero (hs : s.size ≤ 1000000) (h : i < s.size) (ho : out.size ≤ 255) (hb : bt s i = 0) : Ev (fun k => wimpleref4_Name.l0 k s (i : Int) out bg bh) (if nameB (out ++ root) = true then (out ++ root, (if bh < 0 then ((i + 1 : Nat) : Int) else bh), 0) else err) := by
  have hb' := (bt_is s i).trans hb
  refine Ev.step (fun k => by rw [wimpleref4_Name.l0]) (Ev.pos (by omega) ?_)
  rw [decide_eq_true (show (out.size : Int) ≤ 255 by omega)]
  refine Ev.step (fun k => by rw [wimpleref4_Name.j1]) (Ev.pos rfl (Ev.pos (by omega) (Ev.pos (by omega) ?_)))
  rw [hb']
  refine Ev.pos (Pu.w64 (by decide) (by decide)) ?_
  rw [Pu.w64 (x := (i : Int) + 1) (by omega) (by omega), show (i : Int) + 1 = ((i + 1 : Nat) : Int) by omega]
  by_cases hm : nameB (out ++ root) = true
  · rw [if_pos hm]
    by_cases hbh : bh < 0
    · rw [show (if bh < 0 then ((i + 1 : Nat) : Int) else bh) = ((i + 1 : Nat) : Int) from if_pos hbh]
      exact Ev.pos hbh (Ev.pos (by omega) (Ev.call rfl (Ev.pos hm (Ev.some _ fun _ => rfl))))
    · rw [show (if bh < 0 then ((i + 1 : Nat) : Int) else bh) = bh from if_neg hbh]
      exact Ev.neg hbh (Ev.pos (by omega) (Ev.call rfl (Ev.pos hm (Ev.some _ fun _ => rfl))))
  · rw [if_neg hm]
    by_cases hbh : bh < 0
    · exact Ev.pos hbh (Ev.pos (by omega) (Ev.call rfl (Ev.neg hm (Ev.some _ fun _ => rfl))))
    · exact Ev.neg hbh (Ev.pos (by omega) (Ev.call rfl (Ev.neg hm (Ev.some _ fun _ => rfl))))
theorem rl_lab (hs : s.size ≤ 1000000) (ho : out.size ≤ 255) (hb : bt s i = (b : Int)) (hz : b ≠ 0) (h63 : b ≤ 63) (hf : i + 1 + b ≤ s.size)
    (h : Ev (fun k => wimpleref4_Name.l0 k s ((i + 1 + b : Nat) : Int) (out ++ s.extract i (i + 1 + b)) bg bh) r) : Ev (fun k => wimpleref4_Name.l0 k s (i : Int) out bg bh) r := by
  have hb' := (bt_is s i).trans hb
  refine Ev.step (fun k => by rw [wimpleref4_Name.l0]) (Ev.pos (by omega) ?_)
  rw [decide_eq_true (show (out.size : Int) ≤ 255 by omega)]
  refine Ev.step (fun k => by rw [wimpleref4_Name.j1]) (Ev.pos rfl (Ev.pos (by omega) (Ev.pos (by omega) ?_)))
  rw [hb', Pu.w64 (x := (b : Int)) (by omega) (by omega)]
  refine Ev.neg (by omega) (Ev.neg (by omega) (Ev.neg (by omega) ?_))
  rw [Pu.w64 (x := (s.size : Int) - (i : Int)) (by omega) (by omega), Pu.w64 (x := (s.size : Int) - (i : Int) - 1) (by omega) (by omega), Pu.w64 (x := (i : Int) + 1) (by omega) (by omega), Pu.w64 (x := (i : Int) + 1 + (b : Int)) (by omega) (by omega), show (i : Int) + 1 + (b : Int) = ((i + 1 + b : Nat) : Int) by omega]
  simp only [Int.toNat_natCast]
  refine Ev.neg (by omega) (Ev.pos (by omega) (Ev.pos (by omega) (Ev.pos ?_ h)))
  rw [ByteArray.size_extract]; omega
theorem rl_short (hs : s.size ≤ 1000000) (h : i < s.size) (ho : out.size ≤ 255) (hb : bt s i = (b : Int)) (hz : b ≠ 0) (h191 : b ≤ 191) (hf : 63 < b ∨ s.size < i + 1 + b) : Ev (fun k => wimpleref4_Name.l0 k s (i : Int) out bg bh) err := by
  have hb' := (bt_is s i).trans hb
  refine Ev.step (fun k => by rw [wimpleref4_Name.l0]) (Ev.pos (by omega) ?_)
  rw [decide_eq_true (show (out.size : Int) ≤ 255 by omega)]
  refine Ev.step (fun k => by rw [wimpleref4_Name.j1]) (Ev.pos rfl (Ev.pos (by omega) (Ev.pos (by omega) ?_)))
  rw [hb', Pu.w64 (x := (b : Int)) (by omega) (by omega)]
  refine Ev.neg (by omega) (Ev.neg (by omega) ?_)
  by_cases h6 : 63 < b
  · exact Ev.pos (by omega) (Ev.some _ fun _ => rfl)
  · rw [Pu.w64 (x := (s.size : Int) - (i : Int)) (by omega) (by omega), Pu.w64 (x := (s.size : Int) - (i : Int) - 1) (by omega) (by omega)]
    exact Ev.neg (by omega) (Ev.pos (by omega) (Ev.some _ fun _ => rfl))
theorem rl_cut (hs : s.size ≤ 1000000) (h : i < s.size) (ho : out.size ≤ 255) (hb : bt s i = (b : Int)) (h192 : 192 ≤ b) (hf : s.size ≤ i + 1) : Ev (fun k => wimpleref4_Name.l0 k s (i : Int) out bg bh) err := by
  have hb' := (bt_is s i).trans hb
  have r1 := bt_le s i
  refine Ev.step (fun k => by rw [wimpleref4_Name.l0]) (Ev.pos (by omega) ?_)
  rw [decide_eq_true (show (out.size : Int) ≤ 255 by omega)]
  refine Ev.step (fun k => by rw [wimpleref4_Name.j1]) (Ev.pos rfl (Ev.pos (by omega) (Ev.pos (by omega) ?_)))
  rw [hb', Pu.w64 (x := (b : Int)) (by omega) (by omega)]
  refine Ev.neg (by omega) (Ev.pos (by omega) (Ev.bind (rn_cut hs (by decide) (by decide) (by omega)) (Ev.neg (by show ¬ (300 : Int) = 0; decide) ?_)))
  exact Ev.step (fun k => by rw [wimpleref4_Name.j2]) (Ev.pos rfl (Ev.some _ fun _ => rfl))
theorem rl_ptr (hs : s.size ≤ 1000000) (h : i + 1 < s.size) (ho : out.size ≤ 255) (hb : bt s i = (b : Int)) (h192 : 192 ≤ b) (hc : bt s (i + 1) = (c : Int)) 
    (h1 : bg ≤ (((b - 192) * 256 + c : Nat) : Int) → r = err) (h2 : (((b - 192) * 256 + c : Nat) : Int) < bg → Ev (fun k => wimpleref4_Name.l0 k s (((b - 192) * 256 + c : Nat) : Int) out (((b - 192) * 256 + c : Nat) : Int) (if bh < 0 then ((i + 2 : Nat) : Int) else bh)) r) :
    Ev (fun k => wimpleref4_Name.l0 k s (i : Int) out bg bh) r := by
  have hb' := (bt_is s i).trans hb
  have r1 := bt_le s i
  have r2 := bt_le s (i + 1)
  have e2 : be2 s i = (b : Int) * 256 + (c : Int) := by unfold be2; rw [hb, hc]
  have em : Go.bits .and .i64 (be2 s i) 16383 = (((b - 192) * 256 + c : Nat) : Int) := by rw [and_16383, e2]; omega
  refine Ev.step (fun k => by rw [wimpleref4_Name.l0]) (Ev.pos (by omega) ?_)
  rw [decide_eq_true (show (out.size : Int) ≤ 255 by omega)]
  refine Ev.step (fun k => by rw [wimpleref4_Name.j1]) (Ev.pos rfl (Ev.pos (by omega) (Ev.pos (by omega) ?_)))
  rw [hb', Pu.w64 (x := (b : Int)) (by omega) (by omega)]
  refine Ev.neg (by omega) (Ev.pos (by omega) (Ev.bind (rnum2 hs (by omega)) (Ev.pos rfl ?_)))
  dsimp only
  rw [em]
  by_cases hg : bg ≤ (((b - 192) * 256 + c : Nat) : Int)
  · rw [decide_eq_true (by omega), h1 hg]
    exact Ev.step (fun k => by rw [wimpleref4_Name.j2]) (Ev.pos rfl (Ev.some _ fun _ => rfl))
  · rw [decide_eq_false (by omega)]
    have h2 := h2 (by omega)
    refine Ev.step (fun k => by rw [wimpleref4_Name.j2]) (Ev.neg (by simp) ?_)
    rw [em]
    by_cases hbh : bh < 0
    · rw [if_pos hbh] at h2
      exact Ev.pos hbh h2
    · rw [if_neg hbh] at h2
      exact Ev.neg hbh h2
end
/-! ### A name -/
theorem lies_rread {S : ByteArray} (hS : S.size ≤ 1000000) {bg : Nat} {r : ByteArray} {i nx : Nat} (h : Lies S bg r i nx) : ∀ (out : ByteArray) (bh : Int), nameB (out ++ r) = true →
    Ev (fun k => wimpleref4_Name.l0 k S (i : Int) out (bg : Int) bh) (out ++ r, (if bh < 0 then (nx : Int) else bh), 0) := by
  induction h with
  | fin bg i h h0 =>
    intro out bh ho
    have z := name_size ho
    rw [ByteArray.size_append] at z
    have := rl_zero (bg := (bg : Int)) (bh := bh) hS h (show out.size ≤ 255 by omega) h0
    rw [if_pos ho] at this
    exact this
  | lab bg i k r nx hb h0 h1 h hr ih =>
    intro out bh ho
    have z := name_size ho
    rw [ByteArray.size_append, ByteArray.size_append] at z
    rw [← ByteArray.append_assoc] at ho ⊢
    exact rl_lab hS (by omega) hb (by omega) h1 h (ih _ bh ho)
  | ptr bg i b c tg r nx hb hc h0 ht hlt h hr ih =>
    intro out bh ho
    have z := name_size ho
    rw [ByteArray.size_append] at z
    subst ht
    refine rl_ptr hS h (by omega) hb h0 hc (fun h => by omega) (fun _ => ?_)
    have := ih out (if bh < 0 then ((i + 2 : Nat) : Int) else bh) ho
    by_cases hbh : bh < 0
    · rw [if_pos hbh] at this ⊢
      rw [if_neg (by omega)] at this
      exact this
    · rw [if_neg hbh] at this ⊢
      rw [if_neg hbh] at this
      exact this
theorem rmeas {bg tg n l : Nat} (h : 350 * bg + 350 ≤ n + 1 + l) (h2 : tg + 1 ≤ bg) : 350 * tg + 350 ≤ n + l := by omega
theorem name_over {s : ByteArray} (h : 255 < s.size) : nameB s = false := by
  cases e : nameB s with
  | false => rfl
  | true => have := name_size e; omega
theorem rl_total {S : ByteArray} (hS : S.size ≤ 1000000) : ∀ (n bg i : Nat) (out : ByteArray) (bh : Int), 350 * bg + 350 ≤ n + out.size → out.size ≤ 330 → Ev (fun k => wimpleref4_Name.l0 k S (i : Int) out (bg : Int) bh) err ∨ ∃ r nx, Lies S bg r i nx ∧ out.size + r.size ≤ 255 := by
  intro n
  induction n with
  | zero => intro bg i out bh h h2; omega
  | succ n ih =>
    intro bg i out bh h h2
    by_cases ho : 255 < out.size
    · exact .inl (rl_over ho)
    by_cases hi : S.size ≤ i
    · exact .inl (rl_end (by omega))
    have r0 := bt_nonneg S i
    have r1 := bt_le S i
    obtain ⟨b, eb⟩ : ∃ b : Nat, bt S i = (b : Int) := ⟨(bt S i).toNat, by omega⟩
    rw [eb] at r0 r1
    by_cases hz : b = 0
    · have z1 : root.size = 1 := rfl
      by_cases h255 : out.size = 255
      · have := rl_zero (bg := (bg : Int)) (bh := bh) hS (show i < S.size by omega) (show out.size ≤ 255 by omega) (by rw [eb, hz]; rfl)
        rw [if_neg (by rw [name_over (by rw [ByteArray.size_append]; omega)]; simp)] at this
        exact .inl this
      · exact .inr ⟨root, i + 1, .fin bg i (by omega) (by rw [eb, hz]; rfl), by omega⟩
    by_cases h63 : b ≤ 63
    · by_cases hf : i + 1 + b ≤ S.size
      · have z : (S.extract i (i + 1 + b)).size = 1 + b := by rw [ByteArray.size_extract]; omega
        rcases ih bg (i + 1 + b) (out ++ S.extract i (i + 1 + b)) bh (by rw [ByteArray.size_append, z]; omega) (by rw [ByteArray.size_append, z]; omega) with k | ⟨r, nx, k, hk⟩
        · exact .inl (rl_lab hS (by omega) eb hz h63 hf k)
        · rw [ByteArray.size_append, z] at hk
          refine .inr ⟨_, nx, .lab bg i b r nx eb (by omega) h63 hf k, ?_⟩
          rw [ByteArray.size_append, z]; omega
      · exact .inl (rl_short hS (by omega) (by omega) eb hz (by omega) (.inr (by omega)))
    · by_cases h191 : b ≤ 191
      · exact .inl (rl_short hS (by omega) (by omega) eb hz h191 (.inl (by omega)))
      · by_cases hc1 : S.size ≤ i + 1
        · exact .inl (rl_cut hS (by omega) (by omega) eb (by omega) hc1)
        · have s0 := bt_nonneg S (i + 1)
          have s1 := bt_le S (i + 1)
          obtain ⟨c, ec⟩ : ∃ c : Nat, bt S (i + 1) = (c : Int) := ⟨(bt S (i + 1)).toNat, by omega⟩
          obtain ⟨tg, htg⟩ : ∃ tg : Nat, tg = (b - 192) * 256 + c := ⟨_, rfl⟩
          by_cases hto : bg ≤ tg
          · exact .inl (rl_ptr hS (by omega) (by omega) eb (by omega) ec (fun _ => rfl) (fun h => by rw [← htg] at h; omega))
          · rcases ih tg tg out (if bh < 0 then ((i + 2 : Nat) : Int) else bh) (rmeas h (by omega)) h2 with k | ⟨r, nx, k, hk⟩
            · refine .inl (rl_ptr hS (by omega) (by omega) eb (by omega) ec (fun _ => rfl) (fun _ => ?_))
              rw [← htg]; exact k
            · exact .inr ⟨r, i + 2, .ptr bg i b c tg r nx eb ec (by omega) htg (by omega) (by omega) k, hk⟩
theorem rf_at {s : ByteArray} {i : Nat} {r : ByteArray × Int × Int} (h : Ev (fun k => wimpleref4_Name.l0 k s (i : Int) (⟨#[]⟩ : ByteArray) (i : Int) (-1)) r) : Ev (fun k => wimpleref4_Name.f k s (i : Int)) r := Ev.neg (by omega) h
/-- A name at a place: the document and comp.Name say the same. -/
theorem name_both {S : ByteArray} (hS : S.size ≤ 1000000) (i : Nat) : (Ev (fun k => comp_Name.f k S (i : Int)) err ∧ Ev (fun k => wimpleref4_Name.f k S (i : Int)) err) ∨
    ∃ r nx, nameB r = true ∧ i < nx ∧ nx ≤ S.size ∧ Ev (fun k => comp_Name.f k S (i : Int)) (r, (nx : Int), 0) ∧ Ev (fun k => wimpleref4_Name.f k S (i : Int)) (r, (nx : Int), 0) := by
  have lies : ∀ (r : ByteArray) (nx : Nat), Lies S i r i nx → r.size ≤ 255 → ∃ r nx, nameB r = true ∧ i < nx ∧ nx ≤ S.size ∧ Ev (fun k => comp_Name.f k S (i : Int)) (r, (nx : Int), 0) ∧ Ev (fun k => wimpleref4_Name.f k S (i : Int)) (r, (nx : Int), 0) := by
    intro r nx k hk
    have hn := lies_may k hk
    have h1 := k.name (S := S) hS hk
    have h2 := lies_rread hS k (⟨#[]⟩ : ByteArray) (-1) (by rw [show (⟨#[]⟩ : ByteArray) ++ r = r from ByteArray.empty_append]; exact hn)
    rw [show (⟨#[]⟩ : ByteArray) ++ r = r from ByteArray.empty_append, if_pos (by decide)] at h2
    exact ⟨r, nx, hn, (lies_next k).1, (lies_next k).2, h1, rf_at h2⟩
  rcases l_total hS (350 * i + 350) i i [] (-1) (by simp) (by simp) with k | ⟨r, nx, k, hk⟩
  · rcases rl_total hS (350 * i + 350) i i (⟨#[]⟩ : ByteArray) (-1) (by simp) (by show 0 ≤ 330; omega) with q | ⟨r, nx, q, hq⟩
    · exact .inl ⟨f_at k, rf_at q⟩
    · exact .inr (lies r nx q (by have : (⟨#[]⟩ : ByteArray).size = 0 := rfl; omega))
  · exact .inr (lies r nx k (by simpa using hk))
end Go.Proofs.Ytjklgdpffmaamaa.Wm

namespace Go.Proofs.Ytjklgdpffmaamaa.PRf
open Go.RowKit Go.Proofs.YtjklgdpffmaamaaW.PrintWords Go.Proofs.YtjklgdpffmaamaaW.PrintLast Go.Proofs.YtjklgdpffmaamaaW.PrintMore
attribute [local go_sem] max2_int min2_int max_two min_two max_three min_three max_four min_four   -- for this text's walks alone
set_option linter.unusedVariables false
set_option linter.unusedSimpArgs false

/-! ### wimpleref4_Data: function 80 -/
mutual
def wimpleref4_Data.j0 : Nat → ByteArray → Int → Int → Int → Bool → Option (ByteArray × Int)
  | 0, _, _, _, _, _ => none
  | k + 1, x0, x1, x2, x3, x36 => if x36 = true then (some ((⟨#[]⟩ : ByteArray), 500)) else (if x3 = 2 then (wimpleref4_Data.j1 k x0 x1 x2 x3 (⟨#[]⟩ : ByteArray) x1 0 x3 (x3 == 2)) else (if x3 = 5 then (wimpleref4_Data.j1 k x0 x1 x2 x3 (⟨#[]⟩ : ByteArray) x1 0 x3 (x3 == 5)) else (wimpleref4_Data.j1 k x0 x1 x2 x3 (⟨#[]⟩ : ByteArray) x1 0 x3 (x3 == 12))))
def wimpleref4_Data.j2 : Nat → ByteArray → Int → Int → Int → ByteArray → Int → Int → Option (ByteArray × Int)
  | 0, _, _, _, _, _, _, _ => none
  | k + 1, x0, x1, x2, x3, x10, x11, x12 => wimpleref4_Data.l0 k x0 x1 x2 x3 x10 x11 x12 0
def wimpleref4_Data.l0 : Nat → ByteArray → Int → Int → Int → ByteArray → Int → Int → Int → Option (ByteArray × Int)
  | 0, _, _, _, _, _, _, _, _ => none
  | k + 1, x0, x1, x2, x3, x10, x11, x12, x13 => if x13 < x12 then ((wimpleref4_Name.f k x0 x11).bind fun bt110 => (if bt110.2.2 = 0 then (if bt110.2.1 > (wrap64 (x1 + x2)) then (some ((⟨#[]⟩ : ByteArray), 500)) else (if x10.size + bt110.1.size ≤ 9223372036854775807 then (wimpleref4_Data.l0 k x0 x1 x2 x3 (x10 ++ bt110.1) bt110.2.1 x12 (wrap64 (x13 + 1))) else (none))) else (some ((⟨#[]⟩ : ByteArray), 500)))) else (if 0 ≤ x11 then (if x11 ≤ (wrap64 (x1 + x2)) then (if (wrap64 (x1 + x2)) ≤ (x0.size : Int) then (if x10.size + (x0.extract (x11 : Int).toNat ((wrap64 (x1 + x2)) : Int).toNat).size ≤ 9223372036854775807 then ((wimpleref4_DataMay.f x3 (x10 ++ (x0.extract (x11 : Int).toNat ((wrap64 (x1 + x2)) : Int).toNat))).bind fun t113 => (if t113 = true then (if x12 > 0 then (if x3 = 6 then (some (x10 ++ (x0.extract (x11 : Int).toNat ((wrap64 (x1 + x2)) : Int).toNat), 0)) else (if x11 = (wrap64 (x1 + x2)) then (some (x10 ++ (x0.extract (x11 : Int).toNat ((wrap64 (x1 + x2)) : Int).toNat), 0)) else (some ((⟨#[]⟩ : ByteArray), 500)))) else (some (x10 ++ (x0.extract (x11 : Int).toNat ((wrap64 (x1 + x2)) : Int).toNat), 0))) else (some ((⟨#[]⟩ : ByteArray), 500)))) else (none)) else (none)) else (none)) else (none))
def wimpleref4_Data.j1 : Nat → ByteArray → Int → Int → Int → ByteArray → Int → Int → Int → Bool → Option (ByteArray × Int)
  | 0, _, _, _, _, _, _, _, _, _ => none
  | k + 1, x0, x1, x2, x3, x10, x11, x12, x38, x39 => if x39 = true then (wimpleref4_Data.j2 k x0 x1 x2 x3 x10 x11 1) else (if x38 = 15 then (if x2 < 2 then (some ((⟨#[]⟩ : ByteArray), 500)) else (if 0 ≤ x1 then (if x1 ≤ (wrap64 (x1 + 2)) then (if (wrap64 (x1 + 2)) ≤ (x0.size : Int) then (wimpleref4_Data.j2 k x0 x1 x2 x3 (x0.extract (x1 : Int).toNat ((wrap64 (x1 + 2)) : Int).toNat) (wrap64 (x1 + 2)) 1) else (none)) else (none)) else (none))) else (if x38 = 6 then (wimpleref4_Data.j2 k x0 x1 x2 x3 x10 x11 2) else (wimpleref4_Data.j2 k x0 x1 x2 x3 x10 x11 x12)))
end
def wimpleref4_Data.f (k : Nat) (a0 : ByteArray) (a1 : Int) (a2 : Int) (a3 : Int) : Option (ByteArray × Int) := if a1 < 0 then (wimpleref4_Data.j0 k a0 a1 a2 a3 true) else (if a2 < 0 then (wimpleref4_Data.j0 k a0 a1 a2 a3 true) else (if a1 > (a0.size : Int) then (wimpleref4_Data.j0 k a0 a1 a2 a3 true) else (wimpleref4_Data.j0 k a0 a1 a2 a3 (decide (a2 > (wrap64 ((a0.size : Int) - a1)))))))
theorem wimpleref4_Data.mono_l : ∀ k, (∀ y0 y1 y2 y3 y4, LeO (wimpleref4_Data.j0 k y0 y1 y2 y3 y4) (wimpleref4_Data.j0 (k + 1) y0 y1 y2 y3 y4)) ∧ (∀ y0 y1 y2 y3 y4 y5 y6, LeO (wimpleref4_Data.j2 k y0 y1 y2 y3 y4 y5 y6) (wimpleref4_Data.j2 (k + 1) y0 y1 y2 y3 y4 y5 y6)) ∧ (∀ y0 y1 y2 y3 y4 y5 y6 y7, LeO (wimpleref4_Data.l0 k y0 y1 y2 y3 y4 y5 y6 y7) (wimpleref4_Data.l0 (k + 1) y0 y1 y2 y3 y4 y5 y6 y7)) ∧ (∀ y0 y1 y2 y3 y4 y5 y6 y7 y8, LeO (wimpleref4_Data.j1 k y0 y1 y2 y3 y4 y5 y6 y7 y8) (wimpleref4_Data.j1 (k + 1) y0 y1 y2 y3 y4 y5 y6 y7 y8))
  | 0 => ⟨fun _ _ _ _ _ r h => by simp [wimpleref4_Data.j0] at h, fun _ _ _ _ _ _ _ r h => by simp [wimpleref4_Data.j2] at h, fun _ _ _ _ _ _ _ _ r h => by simp [wimpleref4_Data.l0] at h, fun _ _ _ _ _ _ _ _ _ r h => by simp [wimpleref4_Data.j1] at h⟩
  | k + 1 => by
    obtain ⟨ih0, ih1, ih2, ih3⟩ := wimpleref4_Data.mono_l k
    refine ⟨?_, ?_, ?_, ?_⟩
    · intro y0 y1 y2 y3 y4
      unfold wimpleref4_Data.j0
      repeat' first
      | (with_reducible exact ih0 _ _ _ _ _)
      | (with_reducible exact ih1 _ _ _ _ _ _ _)
      | (with_reducible exact ih2 _ _ _ _ _ _ _ _)
      | (with_reducible exact ih3 _ _ _ _ _ _ _ _ _)
      | (with_reducible exact wimpleref4_Name.mono _ _ _)
      | (with_reducible exact LeO.refl _)
      | (with_reducible exact LeO.none _)
      | (with_reducible refine LeO.ite ?_ ?_)
      | (with_reducible refine LeO.bind ?_ (fun _ => ?_))
      | exact ih0 _ _ _ _ _
      | exact ih1 _ _ _ _ _ _ _
      | exact ih2 _ _ _ _ _ _ _ _
      | exact ih3 _ _ _ _ _ _ _ _ _
      | exact wimpleref4_Name.mono _ _ _
      | exact LeO.none _
      | refine LeO.ite ?_ ?_
      | refine LeO.bind ?_ (fun _ => ?_)
    · intro y0 y1 y2 y3 y4 y5 y6
      unfold wimpleref4_Data.j2
      repeat' first
      | (with_reducible exact ih0 _ _ _ _ _)
      | (with_reducible exact ih1 _ _ _ _ _ _ _)
      | (with_reducible exact ih2 _ _ _ _ _ _ _ _)
      | (with_reducible exact ih3 _ _ _ _ _ _ _ _ _)
      | (with_reducible exact wimpleref4_Name.mono _ _ _)
      | (with_reducible exact LeO.refl _)
      | (with_reducible exact LeO.none _)
      | (with_reducible refine LeO.ite ?_ ?_)
      | (with_reducible refine LeO.bind ?_ (fun _ => ?_))
      | exact ih0 _ _ _ _ _
      | exact ih1 _ _ _ _ _ _ _
      | exact ih2 _ _ _ _ _ _ _ _
      | exact ih3 _ _ _ _ _ _ _ _ _
      | exact wimpleref4_Name.mono _ _ _
      | exact LeO.none _
      | refine LeO.ite ?_ ?_
      | refine LeO.bind ?_ (fun _ => ?_)
    · intro y0 y1 y2 y3 y4 y5 y6 y7
      unfold wimpleref4_Data.l0
      repeat' first
      | (with_reducible exact ih0 _ _ _ _ _)
      | (with_reducible exact ih1 _ _ _ _ _ _ _)
      | (with_reducible exact ih2 _ _ _ _ _ _ _ _)
      | (with_reducible exact ih3 _ _ _ _ _ _ _ _ _)
      | (with_reducible exact wimpleref4_Name.mono _ _ _)
      | (with_reducible exact LeO.refl _)
      | (with_reducible exact LeO.none _)
      | (with_reducible refine LeO.ite ?_ ?_)
      | (with_reducible refine LeO.bind ?_ (fun _ => ?_))
      | exact ih0 _ _ _ _ _
      | exact ih1 _ _ _ _ _ _ _
      | exact ih2 _ _ _ _ _ _ _ _
      | exact ih3 _ _ _ _ _ _ _ _ _
      | exact wimpleref4_Name.mono _ _ _
      | exact LeO.none _
      | refine LeO.ite ?_ ?_
      | refine LeO.bind ?_ (fun _ => ?_)
    · intro y0 y1 y2 y3 y4 y5 y6 y7 y8
      unfold wimpleref4_Data.j1
      repeat' first
      | (with_reducible exact ih0 _ _ _ _ _)
      | (with_reducible exact ih1 _ _ _ _ _ _ _)
      | (with_reducible exact ih2 _ _ _ _ _ _ _ _)
      | (with_reducible exact ih3 _ _ _ _ _ _ _ _ _)
      | (with_reducible exact wimpleref4_Name.mono _ _ _)
      | (with_reducible exact LeO.refl _)
      | (with_reducible exact LeO.none _)
      | (with_reducible refine LeO.ite ?_ ?_)
      | (with_reducible refine LeO.bind ?_ (fun _ => ?_))
      | exact ih0 _ _ _ _ _
      | exact ih1 _ _ _ _ _ _ _
      | exact ih2 _ _ _ _ _ _ _ _
      | exact ih3 _ _ _ _ _ _ _ _ _
      | exact wimpleref4_Name.mono _ _ _
      | exact LeO.none _
      | refine LeO.ite ?_ ?_
      | refine LeO.bind ?_ (fun _ => ?_)
theorem wimpleref4_Data.mono : ∀ a0 a1 a2 a3 k, LeO (wimpleref4_Data.f k a0 a1 a2 a3) (wimpleref4_Data.f (k + 1) a0 a1 a2 a3) := by
  intro a0 a1 a2 a3 k
  obtain ⟨ih0, ih1, ih2, ih3⟩ := wimpleref4_Data.mono_l k
  unfold wimpleref4_Data.f
  repeat' first
      | (with_reducible exact ih0 _ _ _ _ _)
      | (with_reducible exact ih1 _ _ _ _ _ _ _)
      | (with_reducible exact ih2 _ _ _ _ _ _ _ _)
      | (with_reducible exact ih3 _ _ _ _ _ _ _ _ _)
      | (with_reducible exact wimpleref4_Name.mono _ _ _)
      | (with_reducible exact LeO.refl _)
      | (with_reducible exact LeO.none _)
      | (with_reducible refine LeO.ite ?_ ?_)
      | (with_reducible refine LeO.bind ?_ (fun _ => ?_))
      | exact ih0 _ _ _ _ _
      | exact ih1 _ _ _ _ _ _ _
      | exact ih2 _ _ _ _ _ _ _ _
      | exact ih3 _ _ _ _ _ _ _ _ _
      | exact wimpleref4_Name.mono _ _ _
      | exact LeO.none _
      | refine LeO.ite ?_ ?_
      | refine LeO.bind ?_ (fun _ => ?_)
set_option maxHeartbeats 8000000 in
set_option maxRecDepth 100000 in
theorem wimpleref4_Data.calls (k : Nat) (a0 : ByteArray) (a1 : Int) (a2 : Int) (a3 : Int) (r1 : ByteArray) (r2 : Int) (w : World) (h : wimpleref4_Data.f k a0 a1 a2 a3 = some (r1, r2)) :
    Calls Try.prog 80 #[.string a0, .int .i64 a1, .int .i64 a2, .int .i64 a3] w fun e w' => e = .returned (.tuple #[.string r1, .int .i64 r2]) ∧ Below w.heap.size w w' := by
  have HB := Aside0.mk (Below.refl w.heap.size w)
  have H : (if a1 < 0 then (wimpleref4_Data.j0 k a0 a1 a2 a3 true) else (if a2 < 0 then (wimpleref4_Data.j0 k a0 a1 a2 a3 true) else (if a1 > (a0.size : Int) then (wimpleref4_Data.j0 k a0 a1 a2 a3 true) else (wimpleref4_Data.j0 k a0 a1 a2 a3 (decide (a2 > (wrap64 ((a0.size : Int) - a1)))))))) = some (r1, r2) := h
  clear h
  have HC5 := Aside0.mk H
  clear H
  go_enter Try.func80, Try.ntmps80
  go_upto_region 1 with (fail)
  go_cut [36] (fun v36 wc => ∃ (kq : Nat) (x36_4 : Bool), v36 = .bool x36_4 ∧ Aside0 (wimpleref4_Data.j0 kq a0 a1 a2 a3 x36_4 = some (r1, r2)) ∧ Aside0 (kq ≤ k) ∧ Aside0 (Below w.heap.size w wc))
  case first =>
    have H := HC5.out
    clear HC5
    by_cases c6 : a1 < 0
    · rw [if_pos c6] at H
      have c6b0 : decide (a1 < 0) = true := decide_eq_true c6
      clear c6
      (first | rw [c6b0] | (simp only [i64_w, i32_w]; rw [c6b0]) | skip)
      have H' := Aside0.mk H
      clear H
      go_wp2
      go_meet
      case rel => exact ⟨_, (true), (by first | rfl | (simp; done) | (simp [*]; done)), H', ⟨by first | omega | exact Nat.le_refl _⟩, ⟨by repeat (first | (with_reducible first | exact HB.out | apply below_alloc | apply pw_below_drewN | apply below_drew1) | exact HB.out)⟩⟩
    · rw [if_neg c6] at H
      have c6b0 : decide (a1 < 0) = false := decide_eq_false c6
      clear c6
      (first | rw [c6b0] | (simp only [i64_w, i32_w]; rw [c6b0]) | skip)
      by_cases c7 : a2 < 0
      · rw [if_pos c7] at H
        have c7b0 : decide (a2 < 0) = true := decide_eq_true c7
        clear c7
        have H' := Aside0.mk H
        clear H
        go_wp2
        go_meet
        case rel => exact ⟨_, (true), (by first | rfl | (simp; done) | (simp [*]; done)), H', ⟨by first | omega | exact Nat.le_refl _⟩, ⟨by repeat (first | (with_reducible first | exact HB.out | apply below_alloc | apply pw_below_drewN | apply below_drew1) | exact HB.out)⟩⟩
      · rw [if_neg c7] at H
        have c7b0 : decide (a2 < 0) = false := decide_eq_false c7
        clear c7
        by_cases c8 : a1 > (a0.size : Int)
        · rw [if_pos c8] at H
          have c8b0 : decide ((a0.size : Int) < a1) = true := decide_eq_true c8
          clear c8
          have H' := Aside0.mk H
          clear H
          go_wp2
          go_meet
          case rel => exact ⟨_, (true), (by first | rfl | (simp; done) | (simp [*]; done)), H', ⟨by first | omega | exact Nat.le_refl _⟩, ⟨by repeat (first | (with_reducible first | exact HB.out | apply below_alloc | apply pw_below_drewN | apply below_drew1) | exact HB.out)⟩⟩
        · rw [if_neg c8] at H
          have c8b0 : decide ((a0.size : Int) < a1) = false := decide_eq_false c8
          clear c8
          have H' := Aside0.mk H
          clear H
          go_wp2
          go_meet
          case rel => exact ⟨_, (decide (a2 > (wrap64 ((a0.size : Int) - a1)))), (by first | rfl | (simp; done) | (simp [*]; done)), H', ⟨by first | omega | exact Nat.le_refl _⟩, ⟨by repeat (first | (with_reducible first | exact HB.out | apply below_alloc | apply pw_below_drewN | apply below_drew1) | exact HB.out)⟩⟩
  case rest =>
    clear HC5
    try clear p2
    try clear c6
    try clear c6b0
    try clear p6
    try clear c7
    try clear c7b0
    try clear c8
    try clear c8b0
    obtain ⟨kq, x36_4, rfl, HA, HJ4, HB⟩ := hcut
    cases kq with
    | zero => exact absurd HA.out (by simp [wimpleref4_Data.j0])
    | succ kj4 =>
      have H := HA.out
      clear HA
      simp only [wimpleref4_Data.j0] at H
      by_cases c9 : x36_4 = true
      · subst c9
        have H1 : (some ((⟨#[]⟩ : ByteArray), 500)) = some (r1, r2) := by rw [if_pos rfl] at H; exact H
        clear H
        have H := H1
        clear H1
        simp only [Option.some.injEq, Prod.mk.injEq] at H
        obtain ⟨rfl, rfl⟩ := H
        go_wp2
        go_ret2
        exact ⟨by first | rfl | (simp [errW_none, errW_some] <;> rfl) | (simp [*, errW_none, errW_some] <;> rfl), by repeat (first | (with_reducible first | exact HB.out | apply below_alloc | apply pw_below_drewN | apply below_drew1) | exact HB.out)⟩
      · replace c9 := Bool.eq_false_iff.mpr c9
        subst c9
        have H1 : (if a3 = 2 then (wimpleref4_Data.j1 kj4 a0 a1 a2 a3 (⟨#[]⟩ : ByteArray) a1 0 a3 (a3 == 2)) else (if a3 = 5 then (wimpleref4_Data.j1 kj4 a0 a1 a2 a3 (⟨#[]⟩ : ByteArray) a1 0 a3 (a3 == 5)) else (wimpleref4_Data.j1 kj4 a0 a1 a2 a3 (⟨#[]⟩ : ByteArray) a1 0 a3 (a3 == 12)))) = some (r1, r2) := by rw [if_neg (show ¬ (false = true) by decide)] at H; exact H
        clear H
        have H := H1
        clear H1
        have HC10 := Aside0.mk H
        clear H
        go_upto_block 0 with (fail)
        go_cut [10, 11, 12] (fun v10 v11 v12 wc => ∃ (kq : Nat) (x10_9 : ByteArray) (x11_9 : Int) (x12_9 : Int), v10 = .string x10_9 ∧ v11 = .int .i64 x11_9 ∧ v12 = .int .i64 x12_9 ∧ Aside0 (wimpleref4_Data.j2 kq a0 a1 a2 a3 x10_9 x11_9 x12_9 = some (r1, r2)) ∧ Aside0 (kq ≤ kj4) ∧ Aside0 (Below w.heap.size w wc))
        case first =>
          have H := HC10.out
          clear HC10
          have HC11 := Aside0.mk H
          clear H
          go_upto_if 39 with (fail)
          go_cut [39] (fun v39 wc => ∃ (kq : Nat) (x39_10 : Bool), v39 = .bool x39_10 ∧ Aside0 (wimpleref4_Data.j1 kq a0 a1 a2 a3 (⟨#[]⟩ : ByteArray) a1 0 a3 x39_10 = some (r1, r2)) ∧ Aside0 (kq ≤ kj4) ∧ Aside0 (Below w.heap.size w wc))
          case first =>
            have H := HC11.out
            clear HC11
            by_cases c12 : a3 = 2
            · rw [if_pos c12] at H
              have c12b0 : (a3 == 2) = true := beq_iff_eq.mpr c12
              have c12b1 : (a3 != 2) = false := bne_eq_false_iff_eq.mpr c12
              clear c12
              (first | rw [c12b0] | (simp only [i64_w, i32_w]; rw [c12b0]) | skip)
              have H' := Aside0.mk H
              clear H
              go_wp2
              go_meet
              case rel => exact ⟨_, ((a3 == 2)), (by first | rfl | (simp; done) | (simp [*]; done)), H', ⟨by have := HJ4.out; first | omega | exact Nat.le_refl _⟩, ⟨by repeat (first | (with_reducible first | exact HB.out | apply below_alloc | apply pw_below_drewN | apply below_drew1) | exact HB.out)⟩⟩
            · rw [if_neg c12] at H
              have c12b0 : (a3 == 2) = false := beq_eq_false_iff_ne.mpr c12
              have c12b1 : (a3 != 2) = true := bne_iff_ne.mpr c12
              (first | rw [c12b0] | (simp only [i64_w, i32_w]; rw [c12b0]) | skip)
              by_cases c13 : a3 = 5
              · rw [if_pos c13] at H
                have c13b0 : (a3 == 5) = true := beq_iff_eq.mpr c13
                have c13b1 : (a3 != 5) = false := bne_eq_false_iff_eq.mpr c13
                clear c13
                have H' := Aside0.mk H
                clear H
                go_wp2
                go_meet
                case rel => exact ⟨_, ((a3 == 5)), (by first | rfl | (simp; done) | (simp [*]; done)), H', ⟨by have := HJ4.out; first | omega | exact Nat.le_refl _⟩, ⟨by repeat (first | (with_reducible first | exact HB.out | apply below_alloc | apply pw_below_drewN | apply below_drew1) | exact HB.out)⟩⟩
              · rw [if_neg c13] at H
                have c13b0 : (a3 == 5) = false := beq_eq_false_iff_ne.mpr c13
                have c13b1 : (a3 != 5) = true := bne_iff_ne.mpr c13
                have H' := Aside0.mk H
                clear H
                go_wp2
                go_meet
                case rel => exact ⟨_, ((a3 == 12)), (by first | rfl | (simp; done) | (simp [*]; done)), H', ⟨by have := HJ4.out; first | omega | exact Nat.le_refl _⟩, ⟨by repeat (first | (with_reducible first | exact HB.out | apply below_alloc | apply pw_below_drewN | apply below_drew1) | exact HB.out)⟩⟩
          case rest =>
            clear HC11
            try clear c1
            try clear p2
            try clear c6
            try clear c6b0
            try clear p6
            try clear c7
            try clear c7b0
            try clear c8
            try clear c8b0
            try clear c9
            try clear c12
            try clear c12b0
            try clear c12b1
            try clear c13
            try clear c13b0
            try clear c13b1
            try clear p2
            try clear p6
            obtain ⟨kq, x39_10, rfl, HA, HJ10, HB⟩ := hcut
            cases kq with
            | zero => exact absurd HA.out (by simp [wimpleref4_Data.j1])
            | succ kj10 =>
              have H := HA.out
              clear HA
              simp only [wimpleref4_Data.j1] at H
              by_cases c14 : x39_10 = true
              · subst c14
                have H1 : (wimpleref4_Data.j2 kj10 a0 a1 a2 a3 (⟨#[]⟩ : ByteArray) a1 1) = some (r1, r2) := by rw [if_pos rfl] at H; exact H
                clear H
                have H := H1
                clear H1
                have H' := Aside0.mk H
                clear H
                go_wp2
                go_meet
                case rel => exact ⟨_, ((⟨#[]⟩ : ByteArray)), (a1), (1), (by first | rfl | (simp; done) | (simp [*]; done)), (by first | rfl | (simp; done) | (simp [*]; done)), (by first | rfl | (simp; done) | (simp [*]; done)), H', ⟨by have := HJ4.out; have := HJ10.out; first | omega | exact Nat.le_refl _⟩, ⟨by repeat (first | (with_reducible first | exact HB.out | apply below_alloc | apply pw_below_drewN | apply below_drew1) | exact HB.out)⟩⟩
              · replace c14 := Bool.eq_false_iff.mpr c14
                subst c14
                have H1 : (if a3 = 15 then (if a2 < 2 then (some ((⟨#[]⟩ : ByteArray), 500)) else (if 0 ≤ a1 then (if a1 ≤ (wrap64 (a1 + 2)) then (if (wrap64 (a1 + 2)) ≤ (a0.size : Int) then (wimpleref4_Data.j2 kj10 a0 a1 a2 a3 (a0.extract (a1 : Int).toNat ((wrap64 (a1 + 2)) : Int).toNat) (wrap64 (a1 + 2)) 1) else (none)) else (none)) else (none))) else (if a3 = 6 then (wimpleref4_Data.j2 kj10 a0 a1 a2 a3 (⟨#[]⟩ : ByteArray) a1 2) else (wimpleref4_Data.j2 kj10 a0 a1 a2 a3 (⟨#[]⟩ : ByteArray) a1 0))) = some (r1, r2) := by rw [if_neg (show ¬ (false = true) by decide)] at H; exact H
                clear H
                have H := H1
                clear H1
                by_cases c15 : a3 = 15
                · rw [if_pos c15] at H
                  have c15b0 : (a3 == 15) = true := beq_iff_eq.mpr c15
                  have c15b1 : (a3 != 15) = false := bne_eq_false_iff_eq.mpr c15
                  clear c15
                  by_cases c16 : a2 < 2
                  · rw [if_pos c16] at H
                    have c16b0 : decide (a2 < 2) = true := decide_eq_true c16
                    clear c16
                    simp only [Option.some.injEq, Prod.mk.injEq] at H
                    obtain ⟨rfl, rfl⟩ := H
                    go_wp2
                    go_ret2
                    exact ⟨by first | rfl | (simp [errW_none, errW_some] <;> rfl) | (simp [*, errW_none, errW_some] <;> rfl), by repeat (first | (with_reducible first | exact HB.out | apply below_alloc | apply pw_below_drewN | apply below_drew1) | exact HB.out)⟩
                  · rw [if_neg c16] at H
                    have c16b0 : decide (a2 < 2) = false := decide_eq_false c16
                    clear c16
                    by_cases c17 : 0 ≤ a1
                    · rw [if_pos c17] at H
                      have c17b0 := eq_true c17
                      have c17b1 : decide (0 ≤ a1) = true := decide_eq_true c17
                      clear c17
                      by_cases c18 : a1 ≤ (wrap64 (a1 + 2))
                      · rw [if_pos c18] at H
                        have c18b0 := eq_true c18
                        have c18b1 : decide (a1 ≤ (wrap64 (a1 + 2))) = true := decide_eq_true c18
                        by_cases c19 : (wrap64 (a1 + 2)) ≤ (a0.size : Int)
                        · rw [if_pos c19] at H
                          have c19b0 := eq_true c19
                          have c19b1 : decide ((wrap64 (a1 + 2)) ≤ (a0.size : Int)) = true := decide_eq_true c19
                          have H' := Aside0.mk H
                          clear H
                          go_wp2
                          go_meet
                          case rel => exact ⟨_, (a0.extract (a1 : Int).toNat ((wrap64 (a1 + 2)) : Int).toNat), (wrap64 (a1 + 2)), (1), (by first | rfl | (simp; done) | (simp [*]; done)), (by first | rfl | (simp; done) | (simp [*]; done)), (by first | rfl | (simp; done) | (simp [*]; done)), H', ⟨by have := HJ4.out; have := HJ10.out; first | omega | exact Nat.le_refl _⟩, ⟨by repeat (first | (with_reducible first | exact HB.out | apply below_alloc | apply pw_below_drewN | apply below_drew1) | exact HB.out)⟩⟩
                        · rw [if_neg c19] at H
                          exact absurd H (by simp)
                      · rw [if_neg c18] at H
                        exact absurd H (by simp)
                    · rw [if_neg c17] at H
                      exact absurd H (by simp)
                · rw [if_neg c15] at H
                  have c15b0 : (a3 == 15) = false := beq_eq_false_iff_ne.mpr c15
                  have c15b1 : (a3 != 15) = true := bne_iff_ne.mpr c15
                  by_cases c20 : a3 = 6
                  · rw [if_pos c20] at H
                    have c20b0 : (a3 == 6) = true := beq_iff_eq.mpr c20
                    have c20b1 : (a3 != 6) = false := bne_eq_false_iff_eq.mpr c20
                    clear c20
                    have H' := Aside0.mk H
                    clear H
                    go_wp2
                    go_meet
                    case rel => exact ⟨_, ((⟨#[]⟩ : ByteArray)), (a1), (2), (by first | rfl | (simp; done) | (simp [*]; done)), (by first | rfl | (simp; done) | (simp [*]; done)), (by first | rfl | (simp; done) | (simp [*]; done)), H', ⟨by have := HJ4.out; have := HJ10.out; first | omega | exact Nat.le_refl _⟩, ⟨by repeat (first | (with_reducible first | exact HB.out | apply below_alloc | apply pw_below_drewN | apply below_drew1) | exact HB.out)⟩⟩
                  · rw [if_neg c20] at H
                    have c20b0 : (a3 == 6) = false := beq_eq_false_iff_ne.mpr c20
                    have c20b1 : (a3 != 6) = true := bne_iff_ne.mpr c20
                    have H' := Aside0.mk H
                    clear H
                    go_wp2
                    go_meet
                    case rel => exact ⟨_, ((⟨#[]⟩ : ByteArray)), (a1), (0), (by first | rfl | (simp; done) | (simp [*]; done)), (by first | rfl | (simp; done) | (simp [*]; done)), (by first | rfl | (simp; done) | (simp [*]; done)), H', ⟨by have := HJ4.out; have := HJ10.out; first | omega | exact Nat.le_refl _⟩, ⟨by repeat (first | (with_reducible first | exact HB.out | apply below_alloc | apply pw_below_drewN | apply below_drew1) | exact HB.out)⟩⟩
        case rest =>
          clear HC10
          try clear c1
          try clear c2
          try clear p2
          try clear c6
          try clear c6b0
          try clear p6
          try clear c7
          try clear c7b0
          try clear c8
          try clear c8b0
          try clear c9
          try clear c12
          try clear c12b0
          try clear c12b1
          try clear c13
          try clear c13b0
          try clear c13b1
          try clear c14
          try clear c15
          try clear c15b0
          try clear c15b1
          try clear c16
          try clear c16b0
          try clear c17
          try clear c17b0
          try clear c17b1
          try clear c18
          try clear c18b0
          try clear c18b1
          try clear c19
          try clear c19b0
          try clear c19b1
          try clear c20
          try clear c20b0
          try clear c20b1
          try clear p2
          try clear p6
          obtain ⟨kq, x10_9, x11_9, x12_9, rfl, rfl, rfl, HA, HJ9, HB⟩ := hcut
          cases kq with
          | zero => exact absurd HA.out (by simp [wimpleref4_Data.j2])
          | succ kj9 =>
            have H := HA.out
            clear HA
            simp only [wimpleref4_Data.j2] at H
            have H' := Aside0.mk H
            clear H
            go_wp2
            go_loopg [10, 11, 13] kj9 (fun kq v10 v11 v13 w' => ∃ (x10_3 : ByteArray) (x11_3 : Int) (x13_3 : Int), v10 = .string x10_3 ∧ v11 = .int .i64 x11_3 ∧ v13 = .int .i64 x13_3 ∧ Aside0 (wimpleref4_Data.l0 kq a0 a1 a2 a3 x10_3 x11_3 x12_9 x13_3 = some (r1, r2)) ∧ Aside0 (kq ≤ kj9) ∧ Aside0 (Below w.heap.size w w'))
            case atStart => exact ⟨(x10_9), (x11_9), (0), (by first | rfl | (simp; done) | (simp [*]; done)), (by first | rfl | (simp; done) | (simp [*]; done)), (by first | rfl | (simp; done) | (simp [*]; done)), H', ⟨Nat.le_refl _⟩, ⟨by repeat (first | (with_reducible first | exact HB.out | apply below_alloc | apply pw_below_drewN | apply below_drew1) | exact HB.out)⟩⟩
            case round =>
              clear H'
              try clear c1
              try clear c2
              try clear p2
              try clear c6
              try clear c6b0
              try clear p6
              try clear c7
              try clear c7b0
              try clear c8
              try clear c8b0
              try clear c9
              try clear c12
              try clear c12b0
              try clear c12b1
              try clear c13
              try clear c13b0
              try clear c13b1
              try clear c14
              try clear c15
              try clear c15b0
              try clear c15b1
              try clear c16
              try clear c16b0
              try clear c17
              try clear c17b0
              try clear c17b1
              try clear c18
              try clear c18b0
              try clear c18b1
              try clear c19
              try clear c19b0
              try clear c19b1
              try clear c20
              try clear c20b0
              try clear c20b1
              try clear p2
              try clear p6
              obtain ⟨x10_3, x11_3, x13_3, rfl, rfl, rfl, HA, HK3, HB⟩ := hrel
              cases gk with
              | zero => exact absurd HA.out (by simp [wimpleref4_Data.l0])
              | succ k3 =>
                have H := HA.out
                clear HA
                simp only [wimpleref4_Data.l0] at H
                by_cases c21 : x13_3 < x12_9
                · rw [if_pos c21] at H
                  have c21b0 : decide (x13_3 < x12_9) = true := decide_eq_true c21
                  clear c21
                  replace H := Option.bind_eq_some_iff.mp H
                  obtain ⟨⟨t110, t111, t112⟩, A220, H⟩ := H
                  replace H : (if t112 = 0 then (if t111 > (wrap64 (a1 + a2)) then (some ((⟨#[]⟩ : ByteArray), 500)) else (if x10_3.size + t110.size ≤ 9223372036854775807 then (wimpleref4_Data.l0 k3 a0 a1 a2 a3 (x10_3 ++ t110) t111 x12_9 (wrap64 (x13_3 + 1))) else (none))) else (some ((⟨#[]⟩ : ByteArray), 500))) = some (r1, r2) := H
                  have A22 := Aside0.mk A220
                  clear A220
                  by_cases c23 : t112 = 0
                  · rw [if_pos c23] at H
                    have c23b0 : (t112 == 0) = true := beq_iff_eq.mpr c23
                    have c23b1 : (t112 != 0) = false := bne_eq_false_iff_eq.mpr c23
                    clear c23
                    by_cases c24 : t111 > (wrap64 (a1 + a2))
                    · rw [if_pos c24] at H
                      have c24b0 : decide ((wrap64 (a1 + a2)) < t111) = true := decide_eq_true c24
                      clear c24
                      simp only [Option.some.injEq, Prod.mk.injEq] at H
                      obtain ⟨rfl, rfl⟩ := H
                      go_wp2_with (first | ((with_reducible refine gate_dst (N := 64) rfl ?_); (try (refine gate_guard (by rfl) ?_; dsimp only)); (with_reducible refine gate_callee (f := 79) rfl ?_); refine goesL_ (some 64) rfl rfl Try.func79 (by kernel_rfl) rfl #[.string a0, .int .i64 x11_3] rfl (by (try simp only [List.map_toArray, List.map_cons, List.map_nil]); first | done | rfl | (simp only [List.length_drop, List.length_take]; rfl)) ?_; (with_reducible refine (wimpleref4_Name.calls k3 a0 x11_3 t110 t111 t112 _ A22.out).mono ?_); rintro e w25 ⟨rfl, hb⟩; refine ⟨_, rfl, ?_⟩; have n0_ := Aside0.mk (below_step (by repeat (first | (with_reducible first | exact HB.out | apply below_alloc | apply pw_below_drewN | apply below_drew1) | exact HB.out)) hb); clear HB; have HB := n0_; clear n0_; (try clear hb); (try clear hb2); (try clear hk); (try clear hi)))
                      go_ret2
                      exact ⟨by first | rfl | (simp [errW_none, errW_some] <;> rfl) | (simp [*, errW_none, errW_some] <;> rfl), by repeat (first | (with_reducible first | exact HB.out | apply below_alloc | apply pw_below_drewN | apply below_drew1) | exact HB.out)⟩
                    · rw [if_neg c24] at H
                      have c24b0 : decide ((wrap64 (a1 + a2)) < t111) = false := decide_eq_false c24
                      clear c24
                      by_cases c26 : x10_3.size + t110.size ≤ 9223372036854775807
                      · rw [if_pos c26] at H
                        have c26b0 := eq_true c26
                        have c26b1 : decide (x10_3.size + t110.size ≤ 9223372036854775807) = true := decide_eq_true c26
                        try have c26b2 : (9223372036854775807 < x10_3.size + t110.size) = False := eq_false (Nat.not_lt.2 c26)
                        have H' := Aside0.mk H
                        clear H
                        go_wp2_with (first | ((with_reducible refine gate_dst (N := 64) rfl ?_); (try (refine gate_guard (by rfl) ?_; dsimp only)); (with_reducible refine gate_callee (f := 79) rfl ?_); refine goesL_ (some 64) rfl rfl Try.func79 (by kernel_rfl) rfl #[.string a0, .int .i64 x11_3] rfl (by (try simp only [List.map_toArray, List.map_cons, List.map_nil]); first | done | rfl | (simp only [List.length_drop, List.length_take]; rfl)) ?_; (with_reducible refine (wimpleref4_Name.calls k3 a0 x11_3 t110 t111 t112 _ A22.out).mono ?_); rintro e w27 ⟨rfl, hb⟩; refine ⟨_, rfl, ?_⟩; have n0_ := Aside0.mk (below_step (by repeat (first | (with_reducible first | exact HB.out | apply below_alloc | apply pw_below_drewN | apply below_drew1) | exact HB.out)) hb); clear HB; have HB := n0_; clear n0_; (try clear hb); (try clear hb2); (try clear hk); (try clear hi)))
                        go_roundg k3
                        case measure => have := HJ4.out; have := HJ9.out; have := HK3.out; omega
                        case rel => exact ⟨(x10_3 ++ t110), (t111), (wrap64 (x13_3 + 1)), (by first | rfl | (simp; done) | (simp [*]; done)), (by first | rfl | (simp; done) | (simp [*]; done)), (by first | rfl | (simp; done) | (simp [*]; done)), H', ⟨by have := HJ4.out; have := HJ9.out; have := HK3.out; omega⟩, ⟨by repeat (first | (with_reducible first | exact HB.out | apply below_alloc | apply pw_below_drewN | apply below_drew1) | exact HB.out)⟩⟩
                      · rw [if_neg c26] at H
                        exact absurd H (by simp)
                  · rw [if_neg c23] at H
                    have c23b0 : (t112 == 0) = false := beq_eq_false_iff_ne.mpr c23
                    have c23b1 : (t112 != 0) = true := bne_iff_ne.mpr c23
                    simp only [Option.some.injEq, Prod.mk.injEq] at H
                    obtain ⟨rfl, rfl⟩ := H
                    go_wp2_with (first | ((with_reducible refine gate_dst (N := 64) rfl ?_); (try (refine gate_guard (by rfl) ?_; dsimp only)); (with_reducible refine gate_callee (f := 79) rfl ?_); refine goesL_ (some 64) rfl rfl Try.func79 (by kernel_rfl) rfl #[.string a0, .int .i64 x11_3] rfl (by (try simp only [List.map_toArray, List.map_cons, List.map_nil]); first | done | rfl | (simp only [List.length_drop, List.length_take]; rfl)) ?_; (with_reducible refine (wimpleref4_Name.calls k3 a0 x11_3 t110 t111 t112 _ A22.out).mono ?_); rintro e w28 ⟨rfl, hb⟩; refine ⟨_, rfl, ?_⟩; have n0_ := Aside0.mk (below_step (by repeat (first | (with_reducible first | exact HB.out | apply below_alloc | apply pw_below_drewN | apply below_drew1) | exact HB.out)) hb); clear HB; have HB := n0_; clear n0_; (try clear hb); (try clear hb2); (try clear hk); (try clear hi)))
                    go_ret2
                    exact ⟨by first | rfl | (simp [errW_none, errW_some] <;> rfl) | (simp [*, errW_none, errW_some] <;> rfl), by repeat (first | (with_reducible first | exact HB.out | apply below_alloc | apply pw_below_drewN | apply below_drew1) | exact HB.out)⟩
                · rw [if_neg c21] at H
                  have c21b0 : decide (x13_3 < x12_9) = false := decide_eq_false c21
                  clear c21
                  by_cases c29 : 0 ≤ x11_3
                  · rw [if_pos c29] at H
                    have c29b0 := eq_true c29
                    have c29b1 : decide (0 ≤ x11_3) = true := decide_eq_true c29
                    clear c29
                    by_cases c30 : x11_3 ≤ (wrap64 (a1 + a2))
                    · rw [if_pos c30] at H
                      have c30b0 := eq_true c30
                      have c30b1 : decide (x11_3 ≤ (wrap64 (a1 + a2))) = true := decide_eq_true c30
                      by_cases c31 : (wrap64 (a1 + a2)) ≤ (a0.size : Int)
                      · rw [if_pos c31] at H
                        have c31b0 := eq_true c31
                        have c31b1 : decide ((wrap64 (a1 + a2)) ≤ (a0.size : Int)) = true := decide_eq_true c31
                        by_cases c32 : x10_3.size + (a0.extract (x11_3 : Int).toNat ((wrap64 (a1 + a2)) : Int).toNat).size ≤ 9223372036854775807
                        · rw [if_pos c32] at H
                          have c32b0 := eq_true c32
                          have c32b1 : decide (x10_3.size + (a0.extract (x11_3 : Int).toNat ((wrap64 (a1 + a2)) : Int).toNat).size ≤ 9223372036854775807) = true := decide_eq_true c32
                          try have c32b2 : (9223372036854775807 < x10_3.size + (a0.extract (x11_3 : Int).toNat ((wrap64 (a1 + a2)) : Int).toNat).size) = False := eq_false (Nat.not_lt.2 c32)
                          replace H := Option.bind_eq_some_iff.mp H
                          obtain ⟨t113, A330, H⟩ := H
                          replace H : (if t113 = true then (if x12_9 > 0 then (if a3 = 6 then (some (x10_3 ++ (a0.extract (x11_3 : Int).toNat ((wrap64 (a1 + a2)) : Int).toNat), 0)) else (if x11_3 = (wrap64 (a1 + a2)) then (some (x10_3 ++ (a0.extract (x11_3 : Int).toNat ((wrap64 (a1 + a2)) : Int).toNat), 0)) else (some ((⟨#[]⟩ : ByteArray), 500)))) else (some (x10_3 ++ (a0.extract (x11_3 : Int).toNat ((wrap64 (a1 + a2)) : Int).toNat), 0))) else (some ((⟨#[]⟩ : ByteArray), 500))) = some (r1, r2) := H
                          have A33 := Aside0.mk A330
                          clear A330
                          by_cases c34 : t113 = true
                          · subst c34
                            have H1 : (if x12_9 > 0 then (if a3 = 6 then (some (x10_3 ++ (a0.extract (x11_3 : Int).toNat ((wrap64 (a1 + a2)) : Int).toNat), 0)) else (if x11_3 = (wrap64 (a1 + a2)) then (some (x10_3 ++ (a0.extract (x11_3 : Int).toNat ((wrap64 (a1 + a2)) : Int).toNat), 0)) else (some ((⟨#[]⟩ : ByteArray), 500)))) else (some (x10_3 ++ (a0.extract (x11_3 : Int).toNat ((wrap64 (a1 + a2)) : Int).toNat), 0))) = some (r1, r2) := by rw [if_pos rfl] at H; exact H
                            clear H
                            have H := H1
                            clear H1
                            by_cases c35 : x12_9 > 0
                            · rw [if_pos c35] at H
                              have c35b0 : decide (0 < x12_9) = true := decide_eq_true c35
                              clear c35
                              by_cases c36 : a3 = 6
                              · rw [if_pos c36] at H
                                have c36b0 : (a3 == 6) = true := beq_iff_eq.mpr c36
                                have c36b1 : (a3 != 6) = false := bne_eq_false_iff_eq.mpr c36
                                clear c36
                                simp only [Option.some.injEq, Prod.mk.injEq] at H
                                obtain ⟨rfl, rfl⟩ := H
                                go_wp2_with (first | ((with_reducible refine gate_dst (N := 91) rfl ?_); (try (refine gate_guard (by rfl) ?_; dsimp only)); (with_reducible refine gate_callee (f := 98) rfl ?_); refine goesL_ (some 91) rfl rfl Try.func98 (by kernel_rfl) rfl #[.int .i64 a3, .string (x10_3 ++ (a0.extract (x11_3 : Int).toNat ((wrap64 (a1 + a2)) : Int).toNat))] rfl (by (try simp only [List.map_toArray, List.map_cons, List.map_nil]); first | done | rfl | (simp only [List.length_drop, List.length_take]; rfl)) ?_; (with_reducible refine (wimpleref4_DataMay.calls a3 (x10_3 ++ (a0.extract (x11_3 : Int).toNat ((wrap64 (a1 + a2)) : Int).toNat)) true _ A33.out).mono ?_); rintro e w37 ⟨rfl, hb⟩; refine ⟨_, rfl, ?_⟩; have n0_ := Aside0.mk (below_step (by repeat (first | (with_reducible first | exact HB.out | apply below_alloc | apply pw_below_drewN | apply below_drew1) | exact HB.out)) hb); clear HB; have HB := n0_; clear n0_; (try clear hb); (try clear hb2); (try clear hk); (try clear hi)))
                                go_ret2
                                exact ⟨by first | rfl | (simp [errW_none, errW_some] <;> rfl) | (simp [*, errW_none, errW_some] <;> rfl), by repeat (first | (with_reducible first | exact HB.out | apply below_alloc | apply pw_below_drewN | apply below_drew1) | exact HB.out)⟩
                              · rw [if_neg c36] at H
                                have c36b0 : (a3 == 6) = false := beq_eq_false_iff_ne.mpr c36
                                have c36b1 : (a3 != 6) = true := bne_iff_ne.mpr c36
                                by_cases c38 : x11_3 = (wrap64 (a1 + a2))
                                · rw [if_pos c38] at H
                                  have c38b0 : (x11_3 == (wrap64 (a1 + a2))) = true := beq_iff_eq.mpr c38
                                  have c38b1 : (x11_3 != (wrap64 (a1 + a2))) = false := bne_eq_false_iff_eq.mpr c38
                                  clear c38
                                  simp only [Option.some.injEq, Prod.mk.injEq] at H
                                  obtain ⟨rfl, rfl⟩ := H
                                  go_wp2_with (first | ((with_reducible refine gate_dst (N := 91) rfl ?_); (try (refine gate_guard (by rfl) ?_; dsimp only)); (with_reducible refine gate_callee (f := 98) rfl ?_); refine goesL_ (some 91) rfl rfl Try.func98 (by kernel_rfl) rfl #[.int .i64 a3, .string (x10_3 ++ (a0.extract (x11_3 : Int).toNat ((wrap64 (a1 + a2)) : Int).toNat))] rfl (by (try simp only [List.map_toArray, List.map_cons, List.map_nil]); first | done | rfl | (simp only [List.length_drop, List.length_take]; rfl)) ?_; (with_reducible refine (wimpleref4_DataMay.calls a3 (x10_3 ++ (a0.extract (x11_3 : Int).toNat ((wrap64 (a1 + a2)) : Int).toNat)) true _ A33.out).mono ?_); rintro e w39 ⟨rfl, hb⟩; refine ⟨_, rfl, ?_⟩; have n0_ := Aside0.mk (below_step (by repeat (first | (with_reducible first | exact HB.out | apply below_alloc | apply pw_below_drewN | apply below_drew1) | exact HB.out)) hb); clear HB; have HB := n0_; clear n0_; (try clear hb); (try clear hb2); (try clear hk); (try clear hi)))
                                  go_ret2
                                  exact ⟨by first | rfl | (simp [errW_none, errW_some] <;> rfl) | (simp [*, errW_none, errW_some] <;> rfl), by repeat (first | (with_reducible first | exact HB.out | apply below_alloc | apply pw_below_drewN | apply below_drew1) | exact HB.out)⟩
                                · rw [if_neg c38] at H
                                  have c38b0 : (x11_3 == (wrap64 (a1 + a2))) = false := beq_eq_false_iff_ne.mpr c38
                                  have c38b1 : (x11_3 != (wrap64 (a1 + a2))) = true := bne_iff_ne.mpr c38
                                  simp only [Option.some.injEq, Prod.mk.injEq] at H
                                  obtain ⟨rfl, rfl⟩ := H
                                  go_wp2_with (first | ((with_reducible refine gate_dst (N := 91) rfl ?_); (try (refine gate_guard (by rfl) ?_; dsimp only)); (with_reducible refine gate_callee (f := 98) rfl ?_); refine goesL_ (some 91) rfl rfl Try.func98 (by kernel_rfl) rfl #[.int .i64 a3, .string (x10_3 ++ (a0.extract (x11_3 : Int).toNat ((wrap64 (a1 + a2)) : Int).toNat))] rfl (by (try simp only [List.map_toArray, List.map_cons, List.map_nil]); first | done | rfl | (simp only [List.length_drop, List.length_take]; rfl)) ?_; (with_reducible refine (wimpleref4_DataMay.calls a3 (x10_3 ++ (a0.extract (x11_3 : Int).toNat ((wrap64 (a1 + a2)) : Int).toNat)) true _ A33.out).mono ?_); rintro e w40 ⟨rfl, hb⟩; refine ⟨_, rfl, ?_⟩; have n0_ := Aside0.mk (below_step (by repeat (first | (with_reducible first | exact HB.out | apply below_alloc | apply pw_below_drewN | apply below_drew1) | exact HB.out)) hb); clear HB; have HB := n0_; clear n0_; (try clear hb); (try clear hb2); (try clear hk); (try clear hi)))
                                  go_ret2
                                  exact ⟨by first | rfl | (simp [errW_none, errW_some] <;> rfl) | (simp [*, errW_none, errW_some] <;> rfl), by repeat (first | (with_reducible first | exact HB.out | apply below_alloc | apply pw_below_drewN | apply below_drew1) | exact HB.out)⟩
                            · rw [if_neg c35] at H
                              have c35b0 : decide (0 < x12_9) = false := decide_eq_false c35
                              clear c35
                              simp only [Option.some.injEq, Prod.mk.injEq] at H
                              obtain ⟨rfl, rfl⟩ := H
                              go_wp2_with (first | ((with_reducible refine gate_dst (N := 91) rfl ?_); (try (refine gate_guard (by rfl) ?_; dsimp only)); (with_reducible refine gate_callee (f := 98) rfl ?_); refine goesL_ (some 91) rfl rfl Try.func98 (by kernel_rfl) rfl #[.int .i64 a3, .string (x10_3 ++ (a0.extract (x11_3 : Int).toNat ((wrap64 (a1 + a2)) : Int).toNat))] rfl (by (try simp only [List.map_toArray, List.map_cons, List.map_nil]); first | done | rfl | (simp only [List.length_drop, List.length_take]; rfl)) ?_; (with_reducible refine (wimpleref4_DataMay.calls a3 (x10_3 ++ (a0.extract (x11_3 : Int).toNat ((wrap64 (a1 + a2)) : Int).toNat)) true _ A33.out).mono ?_); rintro e w41 ⟨rfl, hb⟩; refine ⟨_, rfl, ?_⟩; have n0_ := Aside0.mk (below_step (by repeat (first | (with_reducible first | exact HB.out | apply below_alloc | apply pw_below_drewN | apply below_drew1) | exact HB.out)) hb); clear HB; have HB := n0_; clear n0_; (try clear hb); (try clear hb2); (try clear hk); (try clear hi)))
                              go_ret2
                              exact ⟨by first | rfl | (simp [errW_none, errW_some] <;> rfl) | (simp [*, errW_none, errW_some] <;> rfl), by repeat (first | (with_reducible first | exact HB.out | apply below_alloc | apply pw_below_drewN | apply below_drew1) | exact HB.out)⟩
                          · replace c34 := Bool.eq_false_iff.mpr c34
                            subst c34
                            have H1 : (some ((⟨#[]⟩ : ByteArray), 500)) = some (r1, r2) := by rw [if_neg (show ¬ (false = true) by decide)] at H; exact H
                            clear H
                            have H := H1
                            clear H1
                            simp only [Option.some.injEq, Prod.mk.injEq] at H
                            obtain ⟨rfl, rfl⟩ := H
                            go_wp2_with (first | ((with_reducible refine gate_dst (N := 91) rfl ?_); (try (refine gate_guard (by rfl) ?_; dsimp only)); (with_reducible refine gate_callee (f := 98) rfl ?_); refine goesL_ (some 91) rfl rfl Try.func98 (by kernel_rfl) rfl #[.int .i64 a3, .string (x10_3 ++ (a0.extract (x11_3 : Int).toNat ((wrap64 (a1 + a2)) : Int).toNat))] rfl (by (try simp only [List.map_toArray, List.map_cons, List.map_nil]); first | done | rfl | (simp only [List.length_drop, List.length_take]; rfl)) ?_; (with_reducible refine (wimpleref4_DataMay.calls a3 (x10_3 ++ (a0.extract (x11_3 : Int).toNat ((wrap64 (a1 + a2)) : Int).toNat)) false _ A33.out).mono ?_); rintro e w42 ⟨rfl, hb⟩; refine ⟨_, rfl, ?_⟩; have n0_ := Aside0.mk (below_step (by repeat (first | (with_reducible first | exact HB.out | apply below_alloc | apply pw_below_drewN | apply below_drew1) | exact HB.out)) hb); clear HB; have HB := n0_; clear n0_; (try clear hb); (try clear hb2); (try clear hk); (try clear hi)))
                            go_ret2
                            exact ⟨by first | rfl | (simp [errW_none, errW_some] <;> rfl) | (simp [*, errW_none, errW_some] <;> rfl), by repeat (first | (with_reducible first | exact HB.out | apply below_alloc | apply pw_below_drewN | apply below_drew1) | exact HB.out)⟩
                        · rw [if_neg c32] at H
                          exact absurd H (by simp)
                      · rw [if_neg c31] at H
                        exact absurd H (by simp)
                    · rw [if_neg c30] at H
                      exact absurd H (by simp)
                  · rw [if_neg c29] at H
                    exact absurd H (by simp)

/-! ### wimpleref4_question: function 49 -/
def wimpleref4_question.f (k : Nat) (a0 : ByteArray) (a1 : Int) : Option (ByteArray × Int × Int × Int × Bool) := (wimpleref4_Name.f k a0 a1).bind fun bt115 => (if bt115.2.2 = 0 then ((wimpleref1_Num.f k a0 bt115.2.1 2).bind fun bt118 => ((wimpleref1_Num.f k a0 bt118.2.1 2).bind fun bt121 => (if bt118.2.2 = 0 then (if bt121.2.2 = 0 then (some (bt115.1, bt118.1, bt121.1, bt121.2.1, decide (bt118.1 > 0))) else (some (bt115.1, bt118.1, bt121.1, bt121.2.1, false))) else (some (bt115.1, bt118.1, bt121.1, bt121.2.1, false))))) else (some ((⟨#[]⟩ : ByteArray), 0, 0, 0, false)))
theorem wimpleref4_question.mono : ∀ a0 a1 k, LeO (wimpleref4_question.f k a0 a1) (wimpleref4_question.f (k + 1) a0 a1) := by
  intro a0 a1 k
  unfold wimpleref4_question.f
  repeat' first
      | (with_reducible exact wimpleref1_Num.mono _ _ _ _)
      | (with_reducible exact wimpleref4_Name.mono _ _ _)
      | (with_reducible exact LeO.refl _)
      | (with_reducible exact LeO.none _)
      | (with_reducible refine LeO.ite ?_ ?_)
      | (with_reducible refine LeO.bind ?_ (fun _ => ?_))
      | exact wimpleref1_Num.mono _ _ _ _
      | exact wimpleref4_Name.mono _ _ _
      | exact LeO.none _
      | refine LeO.ite ?_ ?_
      | refine LeO.bind ?_ (fun _ => ?_)
set_option maxHeartbeats 8000000 in
set_option maxRecDepth 100000 in
theorem wimpleref4_question.calls (k : Nat) (a0 : ByteArray) (a1 : Int) (r1 : ByteArray) (r2 : Int) (r3 : Int) (r4 : Int) (r5 : Bool) (w : World) (h : wimpleref4_question.f k a0 a1 = some (r1, r2, r3, r4, r5)) :
    Calls Try.prog 49 #[.string a0, .int .i64 a1] w fun e w' => e = .returned (.tuple #[.agg #[.string r1, .int .i64 r2, .int .i64 r3], .int .i64 r4, .bool r5]) ∧ Below w.heap.size w w' := by
  have hu40 := Try.underlying40
  have HB := Aside0.mk (Below.refl w.heap.size w)
  have H : ((wimpleref4_Name.f k a0 a1).bind fun bt115 => (if bt115.2.2 = 0 then ((wimpleref1_Num.f k a0 bt115.2.1 2).bind fun bt118 => ((wimpleref1_Num.f k a0 bt118.2.1 2).bind fun bt121 => (if bt118.2.2 = 0 then (if bt121.2.2 = 0 then (some (bt115.1, bt118.1, bt121.1, bt121.2.1, decide (bt118.1 > 0))) else (some (bt115.1, bt118.1, bt121.1, bt121.2.1, false))) else (some (bt115.1, bt118.1, bt121.1, bt121.2.1, false))))) else (some ((⟨#[]⟩ : ByteArray), 0, 0, 0, false)))) = some (r1, r2, r3, r4, r5) := h
  clear h
  replace H := Option.bind_eq_some_iff.mp H
  obtain ⟨⟨t115, t116, t117⟩, A30, H⟩ := H
  replace H : (if t117 = 0 then ((wimpleref1_Num.f k a0 t116 2).bind fun bt118 => ((wimpleref1_Num.f k a0 bt118.2.1 2).bind fun bt121 => (if bt118.2.2 = 0 then (if bt121.2.2 = 0 then (some (t115, bt118.1, bt121.1, bt121.2.1, decide (bt118.1 > 0))) else (some (t115, bt118.1, bt121.1, bt121.2.1, false))) else (some (t115, bt118.1, bt121.1, bt121.2.1, false))))) else (some ((⟨#[]⟩ : ByteArray), 0, 0, 0, false))) = some (r1, r2, r3, r4, r5) := H
  have A3 := Aside0.mk A30
  clear A30
  by_cases c4 : t117 = 0
  · rw [if_pos c4] at H
    have c4b0 : (t117 == 0) = true := beq_iff_eq.mpr c4
    have c4b1 : (t117 != 0) = false := bne_eq_false_iff_eq.mpr c4
    clear c4
    replace H := Option.bind_eq_some_iff.mp H
    obtain ⟨⟨t118, t119, t120⟩, A50, H⟩ := H
    replace H : ((wimpleref1_Num.f k a0 t119 2).bind fun bt121 => (if t120 = 0 then (if bt121.2.2 = 0 then (some (t115, t118, bt121.1, bt121.2.1, decide (t118 > 0))) else (some (t115, t118, bt121.1, bt121.2.1, false))) else (some (t115, t118, bt121.1, bt121.2.1, false)))) = some (r1, r2, r3, r4, r5) := H
    have A5 := Aside0.mk A50
    clear A50
    replace H := Option.bind_eq_some_iff.mp H
    obtain ⟨⟨t121, t122, t123⟩, A60, H⟩ := H
    replace H : (if t120 = 0 then (if t123 = 0 then (some (t115, t118, t121, t122, decide (t118 > 0))) else (some (t115, t118, t121, t122, false))) else (some (t115, t118, t121, t122, false))) = some (r1, r2, r3, r4, r5) := H
    have A6 := Aside0.mk A60
    clear A60
    by_cases c7 : t120 = 0
    · rw [if_pos c7] at H
      have c7b0 : (t120 == 0) = true := beq_iff_eq.mpr c7
      have c7b1 : (t120 != 0) = false := bne_eq_false_iff_eq.mpr c7
      clear c7
      by_cases c8 : t123 = 0
      · rw [if_pos c8] at H
        have c8b0 : (t123 == 0) = true := beq_iff_eq.mpr c8
        have c8b1 : (t123 != 0) = false := bne_eq_false_iff_eq.mpr c8
        clear c8
        simp only [Option.some.injEq, Prod.mk.injEq] at H
        obtain ⟨rfl, rfl, rfl, rfl, rfl⟩ := H
        go_enter Try.func49, Try.ntmps49
        go_wp2_with (first | ((with_reducible refine gate_dst (N := 4) rfl ?_); refine box_event ?hg (N := 4) ?hd (cs := #[.string (⟨#[]⟩ : ByteArray), .int .i64 0, .int .i64 0]) (t := 40) ?hr ?_; (case hd => rfl); (case hg => rfl); (case hr => first | (go_simp; done) | (go_simp; rfl)); intro gb114 hg w9 hbox hb; have n0_ := Aside0.mk (below_step (by repeat (first | (with_reducible first | exact HB.out | apply below_alloc | apply pw_below_drewN | apply below_drew1) | exact HB.out)) hb); have n1_ := Aside0.mk (hbox); have n2_ := Aside0.mk ((by rw [hg]; exact (below_size (by repeat (first | (with_reducible first | exact HB.out | apply below_alloc | apply pw_below_drewN | apply below_drew1) | exact HB.out))) : w.heap.size ≤ gb114)); have n3_ := Aside0.mk ((by rw [hg]; exact (below_size (by repeat (first | (with_reducible first | exact HB.out | apply below_alloc | apply pw_below_drewN | apply below_drew1) | exact HB.out))) : w.heap.size ≤ gb114)); clear HB; have HB := n0_; have BK114 := n1_; have GW114 := n2_; have GE114 := n3_; clear n0_ n1_ n2_ n3_; clear hb hbox hg) | ((with_reducible refine gate_dst (N := 19) rfl ?_); (with_reducible refine gate_callee (f := 79) rfl ?_); refine goesL_ (some 19) rfl rfl Try.func79 (by kernel_rfl) rfl #[.string a0, .int .i64 a1] rfl (by (try simp only [List.map_toArray, List.map_cons, List.map_nil]); first | done | rfl | (simp only [List.length_drop, List.length_take]; rfl)) ?_; (with_reducible refine (wimpleref4_Name.calls k a0 a1 t115 t116 t117 _ A3.out).mono ?_); rintro e w10 ⟨rfl, hb⟩; refine ⟨_, rfl, ?_⟩; have n0_ := Aside0.mk (blk_below (g := gb114) (o := .cells #[.string (⟨#[]⟩ : ByteArray), .int .i64 0, .int .i64 0] 40 (0, 0)) (by (with_reducible repeat (first | refine blk_drewN ?_ _ | refine blk_drew ?_ | refine blk_alloc ?_ _)); exact BK114.out) hb); have n1_ := Aside0.mk (below_step (by repeat (first | (with_reducible first | exact HB.out | apply below_alloc | apply pw_below_drewN | apply below_drew1 | refine below_set ?_ GE114.out) | exact HB.out)) hb); clear BK114; clear HB; have BK114 := n0_; have HB := n1_; clear n0_ n1_; (try clear hb); (try clear hb2); (try clear hk); (try clear hi)) | ((with_reducible refine gate_dst (N := 29) rfl ?_); (with_reducible refine gate_callee (f := 54) rfl ?_); refine goesL_ (some 29) rfl rfl Try.func54 (by kernel_rfl) rfl #[.string a0, .int .i64 t116, .int .i64 2] rfl (by (try simp only [List.map_toArray, List.map_cons, List.map_nil]); first | done | rfl | (simp only [List.length_drop, List.length_take]; rfl)) ?_; (with_reducible refine (wimpleref1_Num.calls k a0 t116 2 t118 t119 t120 _ A5.out).mono ?_); rintro e w' ⟨rfl, ⟨nd, rfl⟩⟩; refine ⟨_, rfl, ?_⟩; (try (rw [drewN_self w10]; generalize hq_ : World.drewN w10 _ = w10; have n0_ : Aside0 (w10.heap[gb114]? = some (.cells #[.string (⟨#[]⟩ : ByteArray), .int .i64 0, .int .i64 0] 40 (0, 0))) := ⟨by rw [← hq_]; exact (by (with_reducible repeat (first | refine blk_drewN ?_ _ | refine blk_drew ?_ | refine blk_alloc ?_ _)); exact BK114.out)⟩; have n1_ : Aside0 (Below w.heap.size w w10) := ⟨by rw [← hq_]; exact (by repeat (first | (with_reducible first | exact HB.out | apply below_alloc | apply pw_below_drewN | apply below_drew1 | refine below_set ?_ GE114.out) | exact HB.out))⟩; clear BK114 HB hq_; have BK114 := n0_; have HB := n1_; clear n0_ n1_)); have hcz11_0 : w10.cell? ⟨gb114, 0, none⟩ = some (.string (⟨#[]⟩ : ByteArray)) := (blk_cell BK114.out 0).trans rfl; have hcz11_1 : w10.cell? ⟨gb114, 1, none⟩ = some (.int .i64 0) := (blk_cell BK114.out 1).trans rfl; have hcz11_2 : w10.cell? ⟨gb114, 2, none⟩ = some (.int .i64 0) := (blk_cell BK114.out 2).trans rfl; have hfz11_0 := blk_frozen BK114.out 0; have hfz11_1 := blk_frozen BK114.out 1; have hfz11_2 := blk_frozen BK114.out 2) | ((with_reducible refine gate_dst (N := 36) rfl ?_); (with_reducible refine gate_callee (f := 54) rfl ?_); refine goesL_ (some 36) rfl rfl Try.func54 (by kernel_rfl) rfl #[.string a0, .int .i64 t119, .int .i64 2] rfl (by (try simp only [List.map_toArray, List.map_cons, List.map_nil]); first | done | rfl | (simp only [List.length_drop, List.length_take]; rfl)) ?_; (with_reducible refine (wimpleref1_Num.calls k a0 t119 2 t121 t122 t123 _ A6.out).mono ?_); rintro e w' ⟨rfl, ⟨nd, rfl⟩⟩; refine ⟨_, rfl, ?_⟩; (try (rw [drewN_self w10]; generalize hq_ : World.drewN w10 _ = w10; have n0_ : Aside0 (w10.heap[gb114]? = some (.cells #[.string (⟨#[]⟩ : ByteArray), .int .i64 0, .int .i64 0] 40 (0, 0))) := ⟨by rw [← hq_]; exact (by (with_reducible repeat (first | refine blk_drewN ?_ _ | refine blk_drew ?_ | refine blk_alloc ?_ _)); exact BK114.out)⟩; have n1_ : Aside0 (Below w.heap.size w w10) := ⟨by rw [← hq_]; exact (by repeat (first | (with_reducible first | exact HB.out | apply below_alloc | apply pw_below_drewN | apply below_drew1 | refine below_set ?_ GE114.out) | exact HB.out))⟩; clear BK114 HB hq_; have BK114 := n0_; have HB := n1_; clear n0_ n1_)); have hcz12_0 : w10.cell? ⟨gb114, 0, none⟩ = some (.string (⟨#[]⟩ : ByteArray)) := (blk_cell BK114.out 0).trans rfl; have hcz12_1 : w10.cell? ⟨gb114, 1, none⟩ = some (.int .i64 0) := (blk_cell BK114.out 1).trans rfl; have hcz12_2 : w10.cell? ⟨gb114, 2, none⟩ = some (.int .i64 0) := (blk_cell BK114.out 2).trans rfl; have hfz12_0 := blk_frozen BK114.out 0; have hfz12_1 := blk_frozen BK114.out 1; have hfz12_2 := blk_frozen BK114.out 2))
        refine bodyPost_ret (results_ctt rfl _ _ gb114 40 #[.string t115, .int .i64 t118, .int .i64 t121] (0, 0) _ rfl (by (with_reducible repeat (first | refine blk_drewN ?_ _ | refine blk_drew ?_ | refine blk_alloc ?_ _)); refine blk_put (cs := #[.string t115, .int .i64 t118, .int .i64 0]) ?_ 2 _ rfl; (with_reducible repeat (first | refine blk_drewN ?_ _ | refine blk_drew ?_ | refine blk_alloc ?_ _)); refine blk_put (cs := #[.string t115, .int .i64 0, .int .i64 0]) ?_ 1 _ rfl; (with_reducible repeat (first | refine blk_drewN ?_ _ | refine blk_drew ?_ | refine blk_alloc ?_ _)); refine blk_put (cs := #[.string (⟨#[]⟩ : ByteArray), .int .i64 0, .int .i64 0]) ?_ 0 _ rfl; (with_reducible repeat (first | refine blk_drewN ?_ _ | refine blk_drew ?_ | refine blk_alloc ?_ _)); exact BK114.out) Try.underlying40 rfl (by kernel_rfl)) rfl ?_
        exact ⟨by first | rfl | (simp [errW_none, errW_some] <;> rfl) | (simp [*, errW_none, errW_some] <;> rfl), by repeat (first | (with_reducible first | exact HB.out | apply below_alloc | apply pw_below_drewN | apply below_drew1 | refine below_set ?_ GE114.out) | exact HB.out)⟩
      · rw [if_neg c8] at H
        have c8b0 : (t123 == 0) = false := beq_eq_false_iff_ne.mpr c8
        have c8b1 : (t123 != 0) = true := bne_iff_ne.mpr c8
        simp only [Option.some.injEq, Prod.mk.injEq] at H
        obtain ⟨rfl, rfl, rfl, rfl, rfl⟩ := H
        go_enter Try.func49, Try.ntmps49
        go_wp2_with (first | ((with_reducible refine gate_dst (N := 4) rfl ?_); refine box_event ?hg (N := 4) ?hd (cs := #[.string (⟨#[]⟩ : ByteArray), .int .i64 0, .int .i64 0]) (t := 40) ?hr ?_; (case hd => rfl); (case hg => rfl); (case hr => first | (go_simp; done) | (go_simp; rfl)); intro gb114 hg w13 hbox hb; have n0_ := Aside0.mk (below_step (by repeat (first | (with_reducible first | exact HB.out | apply below_alloc | apply pw_below_drewN | apply below_drew1) | exact HB.out)) hb); have n1_ := Aside0.mk (hbox); have n2_ := Aside0.mk ((by rw [hg]; exact (below_size (by repeat (first | (with_reducible first | exact HB.out | apply below_alloc | apply pw_below_drewN | apply below_drew1) | exact HB.out))) : w.heap.size ≤ gb114)); have n3_ := Aside0.mk ((by rw [hg]; exact (below_size (by repeat (first | (with_reducible first | exact HB.out | apply below_alloc | apply pw_below_drewN | apply below_drew1) | exact HB.out))) : w.heap.size ≤ gb114)); clear HB; have HB := n0_; have BK114 := n1_; have GW114 := n2_; have GE114 := n3_; clear n0_ n1_ n2_ n3_; clear hb hbox hg) | ((with_reducible refine gate_dst (N := 19) rfl ?_); (with_reducible refine gate_callee (f := 79) rfl ?_); refine goesL_ (some 19) rfl rfl Try.func79 (by kernel_rfl) rfl #[.string a0, .int .i64 a1] rfl (by (try simp only [List.map_toArray, List.map_cons, List.map_nil]); first | done | rfl | (simp only [List.length_drop, List.length_take]; rfl)) ?_; (with_reducible refine (wimpleref4_Name.calls k a0 a1 t115 t116 t117 _ A3.out).mono ?_); rintro e w14 ⟨rfl, hb⟩; refine ⟨_, rfl, ?_⟩; have n0_ := Aside0.mk (blk_below (g := gb114) (o := .cells #[.string (⟨#[]⟩ : ByteArray), .int .i64 0, .int .i64 0] 40 (0, 0)) (by (with_reducible repeat (first | refine blk_drewN ?_ _ | refine blk_drew ?_ | refine blk_alloc ?_ _)); exact BK114.out) hb); have n1_ := Aside0.mk (below_step (by repeat (first | (with_reducible first | exact HB.out | apply below_alloc | apply pw_below_drewN | apply below_drew1 | refine below_set ?_ GE114.out) | exact HB.out)) hb); clear BK114; clear HB; have BK114 := n0_; have HB := n1_; clear n0_ n1_; (try clear hb); (try clear hb2); (try clear hk); (try clear hi)) | ((with_reducible refine gate_dst (N := 29) rfl ?_); (with_reducible refine gate_callee (f := 54) rfl ?_); refine goesL_ (some 29) rfl rfl Try.func54 (by kernel_rfl) rfl #[.string a0, .int .i64 t116, .int .i64 2] rfl (by (try simp only [List.map_toArray, List.map_cons, List.map_nil]); first | done | rfl | (simp only [List.length_drop, List.length_take]; rfl)) ?_; (with_reducible refine (wimpleref1_Num.calls k a0 t116 2 t118 t119 t120 _ A5.out).mono ?_); rintro e w' ⟨rfl, ⟨nd, rfl⟩⟩; refine ⟨_, rfl, ?_⟩; (try (rw [drewN_self w14]; generalize hq_ : World.drewN w14 _ = w14; have n0_ : Aside0 (w14.heap[gb114]? = some (.cells #[.string (⟨#[]⟩ : ByteArray), .int .i64 0, .int .i64 0] 40 (0, 0))) := ⟨by rw [← hq_]; exact (by (with_reducible repeat (first | refine blk_drewN ?_ _ | refine blk_drew ?_ | refine blk_alloc ?_ _)); exact BK114.out)⟩; have n1_ : Aside0 (Below w.heap.size w w14) := ⟨by rw [← hq_]; exact (by repeat (first | (with_reducible first | exact HB.out | apply below_alloc | apply pw_below_drewN | apply below_drew1 | refine below_set ?_ GE114.out) | exact HB.out))⟩; clear BK114 HB hq_; have BK114 := n0_; have HB := n1_; clear n0_ n1_)); (try clear hcz11_0 hcz11_1 hcz11_2 hfz11_0 hfz11_1 hfz11_2); (try clear hcz12_0 hcz12_1 hcz12_2 hfz12_0 hfz12_1 hfz12_2); have hcz15_0 : w14.cell? ⟨gb114, 0, none⟩ = some (.string (⟨#[]⟩ : ByteArray)) := (blk_cell BK114.out 0).trans rfl; have hcz15_1 : w14.cell? ⟨gb114, 1, none⟩ = some (.int .i64 0) := (blk_cell BK114.out 1).trans rfl; have hcz15_2 : w14.cell? ⟨gb114, 2, none⟩ = some (.int .i64 0) := (blk_cell BK114.out 2).trans rfl; have hfz15_0 := blk_frozen BK114.out 0; have hfz15_1 := blk_frozen BK114.out 1; have hfz15_2 := blk_frozen BK114.out 2) | ((with_reducible refine gate_dst (N := 36) rfl ?_); (with_reducible refine gate_callee (f := 54) rfl ?_); refine goesL_ (some 36) rfl rfl Try.func54 (by kernel_rfl) rfl #[.string a0, .int .i64 t119, .int .i64 2] rfl (by (try simp only [List.map_toArray, List.map_cons, List.map_nil]); first | done | rfl | (simp only [List.length_drop, List.length_take]; rfl)) ?_; (with_reducible refine (wimpleref1_Num.calls k a0 t119 2 t121 t122 t123 _ A6.out).mono ?_); rintro e w' ⟨rfl, ⟨nd, rfl⟩⟩; refine ⟨_, rfl, ?_⟩; (try (rw [drewN_self w14]; generalize hq_ : World.drewN w14 _ = w14; have n0_ : Aside0 (w14.heap[gb114]? = some (.cells #[.string (⟨#[]⟩ : ByteArray), .int .i64 0, .int .i64 0] 40 (0, 0))) := ⟨by rw [← hq_]; exact (by (with_reducible repeat (first | refine blk_drewN ?_ _ | refine blk_drew ?_ | refine blk_alloc ?_ _)); exact BK114.out)⟩; have n1_ : Aside0 (Below w.heap.size w w14) := ⟨by rw [← hq_]; exact (by repeat (first | (with_reducible first | exact HB.out | apply below_alloc | apply pw_below_drewN | apply below_drew1 | refine below_set ?_ GE114.out) | exact HB.out))⟩; clear BK114 HB hq_; have BK114 := n0_; have HB := n1_; clear n0_ n1_)); (try clear hcz11_0 hcz11_1 hcz11_2 hfz11_0 hfz11_1 hfz11_2); (try clear hcz12_0 hcz12_1 hcz12_2 hfz12_0 hfz12_1 hfz12_2); have hcz16_0 : w14.cell? ⟨gb114, 0, none⟩ = some (.string (⟨#[]⟩ : ByteArray)) := (blk_cell BK114.out 0).trans rfl; have hcz16_1 : w14.cell? ⟨gb114, 1, none⟩ = some (.int .i64 0) := (blk_cell BK114.out 1).trans rfl; have hcz16_2 : w14.cell? ⟨gb114, 2, none⟩ = some (.int .i64 0) := (blk_cell BK114.out 2).trans rfl; have hfz16_0 := blk_frozen BK114.out 0; have hfz16_1 := blk_frozen BK114.out 1; have hfz16_2 := blk_frozen BK114.out 2))
        refine bodyPost_ret (results_ctt rfl _ _ gb114 40 #[.string t115, .int .i64 t118, .int .i64 t121] (0, 0) _ rfl (by (with_reducible repeat (first | refine blk_drewN ?_ _ | refine blk_drew ?_ | refine blk_alloc ?_ _)); refine blk_put (cs := #[.string t115, .int .i64 t118, .int .i64 0]) ?_ 2 _ rfl; (with_reducible repeat (first | refine blk_drewN ?_ _ | refine blk_drew ?_ | refine blk_alloc ?_ _)); refine blk_put (cs := #[.string t115, .int .i64 0, .int .i64 0]) ?_ 1 _ rfl; (with_reducible repeat (first | refine blk_drewN ?_ _ | refine blk_drew ?_ | refine blk_alloc ?_ _)); refine blk_put (cs := #[.string (⟨#[]⟩ : ByteArray), .int .i64 0, .int .i64 0]) ?_ 0 _ rfl; (with_reducible repeat (first | refine blk_drewN ?_ _ | refine blk_drew ?_ | refine blk_alloc ?_ _)); exact BK114.out) Try.underlying40 rfl (by kernel_rfl)) rfl ?_
        exact ⟨by first | rfl | (simp [errW_none, errW_some] <;> rfl) | (simp [*, errW_none, errW_some] <;> rfl), by repeat (first | (with_reducible first | exact HB.out | apply below_alloc | apply pw_below_drewN | apply below_drew1 | refine below_set ?_ GE114.out) | exact HB.out)⟩
    · rw [if_neg c7] at H
      have c7b0 : (t120 == 0) = false := beq_eq_false_iff_ne.mpr c7
      have c7b1 : (t120 != 0) = true := bne_iff_ne.mpr c7
      simp only [Option.some.injEq, Prod.mk.injEq] at H
      obtain ⟨rfl, rfl, rfl, rfl, rfl⟩ := H
      go_enter Try.func49, Try.ntmps49
      go_wp2_with (first | ((with_reducible refine gate_dst (N := 4) rfl ?_); refine box_event ?hg (N := 4) ?hd (cs := #[.string (⟨#[]⟩ : ByteArray), .int .i64 0, .int .i64 0]) (t := 40) ?hr ?_; (case hd => rfl); (case hg => rfl); (case hr => first | (go_simp; done) | (go_simp; rfl)); intro gb114 hg w17 hbox hb; have n0_ := Aside0.mk (below_step (by repeat (first | (with_reducible first | exact HB.out | apply below_alloc | apply pw_below_drewN | apply below_drew1) | exact HB.out)) hb); have n1_ := Aside0.mk (hbox); have n2_ := Aside0.mk ((by rw [hg]; exact (below_size (by repeat (first | (with_reducible first | exact HB.out | apply below_alloc | apply pw_below_drewN | apply below_drew1) | exact HB.out))) : w.heap.size ≤ gb114)); have n3_ := Aside0.mk ((by rw [hg]; exact (below_size (by repeat (first | (with_reducible first | exact HB.out | apply below_alloc | apply pw_below_drewN | apply below_drew1) | exact HB.out))) : w.heap.size ≤ gb114)); clear HB; have HB := n0_; have BK114 := n1_; have GW114 := n2_; have GE114 := n3_; clear n0_ n1_ n2_ n3_; clear hb hbox hg) | ((with_reducible refine gate_dst (N := 19) rfl ?_); (with_reducible refine gate_callee (f := 79) rfl ?_); refine goesL_ (some 19) rfl rfl Try.func79 (by kernel_rfl) rfl #[.string a0, .int .i64 a1] rfl (by (try simp only [List.map_toArray, List.map_cons, List.map_nil]); first | done | rfl | (simp only [List.length_drop, List.length_take]; rfl)) ?_; (with_reducible refine (wimpleref4_Name.calls k a0 a1 t115 t116 t117 _ A3.out).mono ?_); rintro e w18 ⟨rfl, hb⟩; refine ⟨_, rfl, ?_⟩; have n0_ := Aside0.mk (blk_below (g := gb114) (o := .cells #[.string (⟨#[]⟩ : ByteArray), .int .i64 0, .int .i64 0] 40 (0, 0)) (by (with_reducible repeat (first | refine blk_drewN ?_ _ | refine blk_drew ?_ | refine blk_alloc ?_ _)); exact BK114.out) hb); have n1_ := Aside0.mk (below_step (by repeat (first | (with_reducible first | exact HB.out | apply below_alloc | apply pw_below_drewN | apply below_drew1 | refine below_set ?_ GE114.out) | exact HB.out)) hb); clear BK114; clear HB; have BK114 := n0_; have HB := n1_; clear n0_ n1_; (try clear hb); (try clear hb2); (try clear hk); (try clear hi)) | ((with_reducible refine gate_dst (N := 29) rfl ?_); (with_reducible refine gate_callee (f := 54) rfl ?_); refine goesL_ (some 29) rfl rfl Try.func54 (by kernel_rfl) rfl #[.string a0, .int .i64 t116, .int .i64 2] rfl (by (try simp only [List.map_toArray, List.map_cons, List.map_nil]); first | done | rfl | (simp only [List.length_drop, List.length_take]; rfl)) ?_; (with_reducible refine (wimpleref1_Num.calls k a0 t116 2 t118 t119 t120 _ A5.out).mono ?_); rintro e w' ⟨rfl, ⟨nd, rfl⟩⟩; refine ⟨_, rfl, ?_⟩; (try (rw [drewN_self w18]; generalize hq_ : World.drewN w18 _ = w18; have n0_ : Aside0 (w18.heap[gb114]? = some (.cells #[.string (⟨#[]⟩ : ByteArray), .int .i64 0, .int .i64 0] 40 (0, 0))) := ⟨by rw [← hq_]; exact (by (with_reducible repeat (first | refine blk_drewN ?_ _ | refine blk_drew ?_ | refine blk_alloc ?_ _)); exact BK114.out)⟩; have n1_ : Aside0 (Below w.heap.size w w18) := ⟨by rw [← hq_]; exact (by repeat (first | (with_reducible first | exact HB.out | apply below_alloc | apply pw_below_drewN | apply below_drew1 | refine below_set ?_ GE114.out) | exact HB.out))⟩; clear BK114 HB hq_; have BK114 := n0_; have HB := n1_; clear n0_ n1_)); (try clear hcz11_0 hcz11_1 hcz11_2 hfz11_0 hfz11_1 hfz11_2); (try clear hcz12_0 hcz12_1 hcz12_2 hfz12_0 hfz12_1 hfz12_2); (try clear hcz15_0 hcz15_1 hcz15_2 hfz15_0 hfz15_1 hfz15_2); (try clear hcz16_0 hcz16_1 hcz16_2 hfz16_0 hfz16_1 hfz16_2); have hcz19_0 : w18.cell? ⟨gb114, 0, none⟩ = some (.string (⟨#[]⟩ : ByteArray)) := (blk_cell BK114.out 0).trans rfl; have hcz19_1 : w18.cell? ⟨gb114, 1, none⟩ = some (.int .i64 0) := (blk_cell BK114.out 1).trans rfl; have hcz19_2 : w18.cell? ⟨gb114, 2, none⟩ = some (.int .i64 0) := (blk_cell BK114.out 2).trans rfl; have hfz19_0 := blk_frozen BK114.out 0; have hfz19_1 := blk_frozen BK114.out 1; have hfz19_2 := blk_frozen BK114.out 2) | ((with_reducible refine gate_dst (N := 36) rfl ?_); (with_reducible refine gate_callee (f := 54) rfl ?_); refine goesL_ (some 36) rfl rfl Try.func54 (by kernel_rfl) rfl #[.string a0, .int .i64 t119, .int .i64 2] rfl (by (try simp only [List.map_toArray, List.map_cons, List.map_nil]); first | done | rfl | (simp only [List.length_drop, List.length_take]; rfl)) ?_; (with_reducible refine (wimpleref1_Num.calls k a0 t119 2 t121 t122 t123 _ A6.out).mono ?_); rintro e w' ⟨rfl, ⟨nd, rfl⟩⟩; refine ⟨_, rfl, ?_⟩; (try (rw [drewN_self w18]; generalize hq_ : World.drewN w18 _ = w18; have n0_ : Aside0 (w18.heap[gb114]? = some (.cells #[.string (⟨#[]⟩ : ByteArray), .int .i64 0, .int .i64 0] 40 (0, 0))) := ⟨by rw [← hq_]; exact (by (with_reducible repeat (first | refine blk_drewN ?_ _ | refine blk_drew ?_ | refine blk_alloc ?_ _)); exact BK114.out)⟩; have n1_ : Aside0 (Below w.heap.size w w18) := ⟨by rw [← hq_]; exact (by repeat (first | (with_reducible first | exact HB.out | apply below_alloc | apply pw_below_drewN | apply below_drew1 | refine below_set ?_ GE114.out) | exact HB.out))⟩; clear BK114 HB hq_; have BK114 := n0_; have HB := n1_; clear n0_ n1_)); (try clear hcz11_0 hcz11_1 hcz11_2 hfz11_0 hfz11_1 hfz11_2); (try clear hcz12_0 hcz12_1 hcz12_2 hfz12_0 hfz12_1 hfz12_2); (try clear hcz15_0 hcz15_1 hcz15_2 hfz15_0 hfz15_1 hfz15_2); (try clear hcz16_0 hcz16_1 hcz16_2 hfz16_0 hfz16_1 hfz16_2); have hcz20_0 : w18.cell? ⟨gb114, 0, none⟩ = some (.string (⟨#[]⟩ : ByteArray)) := (blk_cell BK114.out 0).trans rfl; have hcz20_1 : w18.cell? ⟨gb114, 1, none⟩ = some (.int .i64 0) := (blk_cell BK114.out 1).trans rfl; have hcz20_2 : w18.cell? ⟨gb114, 2, none⟩ = some (.int .i64 0) := (blk_cell BK114.out 2).trans rfl; have hfz20_0 := blk_frozen BK114.out 0; have hfz20_1 := blk_frozen BK114.out 1; have hfz20_2 := blk_frozen BK114.out 2))
      refine bodyPost_ret (results_ctt rfl _ _ gb114 40 #[.string t115, .int .i64 t118, .int .i64 t121] (0, 0) _ rfl (by (with_reducible repeat (first | refine blk_drewN ?_ _ | refine blk_drew ?_ | refine blk_alloc ?_ _)); refine blk_put (cs := #[.string t115, .int .i64 t118, .int .i64 0]) ?_ 2 _ rfl; (with_reducible repeat (first | refine blk_drewN ?_ _ | refine blk_drew ?_ | refine blk_alloc ?_ _)); refine blk_put (cs := #[.string t115, .int .i64 0, .int .i64 0]) ?_ 1 _ rfl; (with_reducible repeat (first | refine blk_drewN ?_ _ | refine blk_drew ?_ | refine blk_alloc ?_ _)); refine blk_put (cs := #[.string (⟨#[]⟩ : ByteArray), .int .i64 0, .int .i64 0]) ?_ 0 _ rfl; (with_reducible repeat (first | refine blk_drewN ?_ _ | refine blk_drew ?_ | refine blk_alloc ?_ _)); exact BK114.out) Try.underlying40 rfl (by kernel_rfl)) rfl ?_
      exact ⟨by first | rfl | (simp [errW_none, errW_some] <;> rfl) | (simp [*, errW_none, errW_some] <;> rfl), by repeat (first | (with_reducible first | exact HB.out | apply below_alloc | apply pw_below_drewN | apply below_drew1 | refine below_set ?_ GE114.out) | exact HB.out)⟩
  · rw [if_neg c4] at H
    have c4b0 : (t117 == 0) = false := beq_eq_false_iff_ne.mpr c4
    have c4b1 : (t117 != 0) = true := bne_iff_ne.mpr c4
    simp only [Option.some.injEq, Prod.mk.injEq] at H
    obtain ⟨rfl, rfl, rfl, rfl, rfl⟩ := H
    go_enter Try.func49, Try.ntmps49
    go_wp2_with (first | ((with_reducible refine gate_dst (N := 4) rfl ?_); refine box_event ?hg (N := 4) ?hd (cs := #[.string (⟨#[]⟩ : ByteArray), .int .i64 0, .int .i64 0]) (t := 40) ?hr ?_; (case hd => rfl); (case hg => rfl); (case hr => first | (go_simp; done) | (go_simp; rfl)); intro gb114 hg w21 hbox hb; have n0_ := Aside0.mk (below_step (by repeat (first | (with_reducible first | exact HB.out | apply below_alloc | apply pw_below_drewN | apply below_drew1) | exact HB.out)) hb); have n1_ := Aside0.mk (hbox); have n2_ := Aside0.mk ((by rw [hg]; exact (below_size (by repeat (first | (with_reducible first | exact HB.out | apply below_alloc | apply pw_below_drewN | apply below_drew1) | exact HB.out))) : w.heap.size ≤ gb114)); have n3_ := Aside0.mk ((by rw [hg]; exact (below_size (by repeat (first | (with_reducible first | exact HB.out | apply below_alloc | apply pw_below_drewN | apply below_drew1) | exact HB.out))) : w.heap.size ≤ gb114)); clear HB; have HB := n0_; have BK114 := n1_; have GW114 := n2_; have GE114 := n3_; clear n0_ n1_ n2_ n3_; clear hb hbox hg) | ((with_reducible refine gate_dst (N := 19) rfl ?_); (with_reducible refine gate_callee (f := 79) rfl ?_); refine goesL_ (some 19) rfl rfl Try.func79 (by kernel_rfl) rfl #[.string a0, .int .i64 a1] rfl (by (try simp only [List.map_toArray, List.map_cons, List.map_nil]); first | done | rfl | (simp only [List.length_drop, List.length_take]; rfl)) ?_; (with_reducible refine (wimpleref4_Name.calls k a0 a1 t115 t116 t117 _ A3.out).mono ?_); rintro e w22 ⟨rfl, hb⟩; refine ⟨_, rfl, ?_⟩; have n0_ := Aside0.mk (blk_below (g := gb114) (o := .cells #[.string (⟨#[]⟩ : ByteArray), .int .i64 0, .int .i64 0] 40 (0, 0)) (by (with_reducible repeat (first | refine blk_drewN ?_ _ | refine blk_drew ?_ | refine blk_alloc ?_ _)); exact BK114.out) hb); have n1_ := Aside0.mk (below_step (by repeat (first | (with_reducible first | exact HB.out | apply below_alloc | apply pw_below_drewN | apply below_drew1 | refine below_set ?_ GE114.out) | exact HB.out)) hb); clear BK114; clear HB; have BK114 := n0_; have HB := n1_; clear n0_ n1_; (try clear hb); (try clear hb2); (try clear hk); (try clear hi); (try clear hcz11_0 hcz11_1 hcz11_2 hfz11_0 hfz11_1 hfz11_2); (try clear hcz12_0 hcz12_1 hcz12_2 hfz12_0 hfz12_1 hfz12_2); (try clear hcz15_0 hcz15_1 hcz15_2 hfz15_0 hfz15_1 hfz15_2); (try clear hcz16_0 hcz16_1 hcz16_2 hfz16_0 hfz16_1 hfz16_2); (try clear hcz19_0 hcz19_1 hcz19_2 hfz19_0 hfz19_1 hfz19_2); (try clear hcz20_0 hcz20_1 hcz20_2 hfz20_0 hfz20_1 hfz20_2); have hcz23_0 : w22.cell? ⟨gb114, 0, none⟩ = some (.string (⟨#[]⟩ : ByteArray)) := (blk_cell BK114.out 0).trans rfl; have hcz23_1 : w22.cell? ⟨gb114, 1, none⟩ = some (.int .i64 0) := (blk_cell BK114.out 1).trans rfl; have hcz23_2 : w22.cell? ⟨gb114, 2, none⟩ = some (.int .i64 0) := (blk_cell BK114.out 2).trans rfl; have hfz23_0 := blk_frozen BK114.out 0; have hfz23_1 := blk_frozen BK114.out 1; have hfz23_2 := blk_frozen BK114.out 2))
    refine bodyPost_ret (results_ctt rfl _ _ gb114 40 #[.string (⟨#[]⟩ : ByteArray), .int .i64 0, .int .i64 0] (0, 0) _ rfl (by (with_reducible repeat (first | refine blk_drewN ?_ _ | refine blk_drew ?_ | refine blk_alloc ?_ _)); refine blk_put (cs := #[.string (⟨#[]⟩ : ByteArray), .int .i64 0, .int .i64 0]) ?_ 2 _ rfl; (with_reducible repeat (first | refine blk_drewN ?_ _ | refine blk_drew ?_ | refine blk_alloc ?_ _)); refine blk_put (cs := #[.string (⟨#[]⟩ : ByteArray), .int .i64 0, .int .i64 0]) ?_ 1 _ rfl; (with_reducible repeat (first | refine blk_drewN ?_ _ | refine blk_drew ?_ | refine blk_alloc ?_ _)); refine blk_put (cs := #[.string (⟨#[]⟩ : ByteArray), .int .i64 0, .int .i64 0]) ?_ 0 _ rfl; (with_reducible repeat (first | refine blk_drewN ?_ _ | refine blk_drew ?_ | refine blk_alloc ?_ _)); exact BK114.out) Try.underlying40 rfl (by kernel_rfl)) rfl ?_
    exact ⟨by first | rfl | (simp [errW_none, errW_some] <;> rfl) | (simp [*, errW_none, errW_some] <;> rfl), by repeat (first | (with_reducible first | exact HB.out | apply below_alloc | apply pw_below_drewN | apply below_drew1 | refine below_set ?_ GE114.out) | exact HB.out)⟩

/-! ### wimpleref4_record: function 50 -/
def wimpleref4_record.f (k : Nat) (a0 : ByteArray) (a1 : Int) : Option (ByteArray × Int × Int × Int × ByteArray × Int × Bool) := (wimpleref4_question.f k a0 a1).bind fun bt125 => (if bt125.2.2.2.2 = true then ((wimpleref1_Num.f k a0 bt125.2.2.2.1 4).bind fun bt131 => ((wimpleref1_Num.f k a0 bt131.2.1 2).bind fun bt134 => (if bt131.2.2 = 0 then (if bt134.2.2 = 0 then ((wimpleref4_Data.f k a0 bt134.2.1 bt134.1 bt125.2.1).bind fun bt137 => (some (bt125.1, bt125.2.1, bt125.2.2.1, bt131.1, bt137.1, wrap64 (bt134.2.1 + bt134.1), (bt137.2 == 0)))) else (some ((⟨#[]⟩ : ByteArray), 0, 0, 0, (⟨#[]⟩ : ByteArray), 0, false))) else (some ((⟨#[]⟩ : ByteArray), 0, 0, 0, (⟨#[]⟩ : ByteArray), 0, false))))) else (some ((⟨#[]⟩ : ByteArray), 0, 0, 0, (⟨#[]⟩ : ByteArray), 0, false)))
theorem wimpleref4_record.mono : ∀ a0 a1 k, LeO (wimpleref4_record.f k a0 a1) (wimpleref4_record.f (k + 1) a0 a1) := by
  intro a0 a1 k
  unfold wimpleref4_record.f
  repeat' first
      | (with_reducible exact wimpleref1_Num.mono _ _ _ _)
      | (with_reducible exact wimpleref4_Data.mono _ _ _ _ _)
      | (with_reducible exact wimpleref4_question.mono _ _ _)
      | (with_reducible exact LeO.refl _)
      | (with_reducible exact LeO.none _)
      | (with_reducible refine LeO.ite ?_ ?_)
      | (with_reducible refine LeO.bind ?_ (fun _ => ?_))
      | exact wimpleref1_Num.mono _ _ _ _
      | exact wimpleref4_Data.mono _ _ _ _ _
      | exact wimpleref4_question.mono _ _ _
      | exact LeO.none _
      | refine LeO.ite ?_ ?_
      | refine LeO.bind ?_ (fun _ => ?_)
set_option maxHeartbeats 8000000 in
set_option maxRecDepth 100000 in
theorem wimpleref4_record.calls (k : Nat) (a0 : ByteArray) (a1 : Int) (r1 : ByteArray) (r2 : Int) (r3 : Int) (r4 : Int) (r5 : ByteArray) (r6 : Int) (r7 : Bool) (w : World) (h : wimpleref4_record.f k a0 a1 = some (r1, r2, r3, r4, r5, r6, r7)) :
    Calls Try.prog 50 #[.string a0, .int .i64 a1] w fun e w' => e = .returned (.tuple #[.agg #[.string r1, .int .i64 r2, .int .i64 r3, .int .i64 r4, .string r5], .int .i64 r6, .bool r7]) ∧ Below w.heap.size w w' := by
  have hu53 := Try.underlying53
  have hu40 := Try.underlying40
  have HB := Aside0.mk (Below.refl w.heap.size w)
  have H : ((wimpleref4_question.f k a0 a1).bind fun bt125 => (if bt125.2.2.2.2 = true then ((wimpleref1_Num.f k a0 bt125.2.2.2.1 4).bind fun bt131 => ((wimpleref1_Num.f k a0 bt131.2.1 2).bind fun bt134 => (if bt131.2.2 = 0 then (if bt134.2.2 = 0 then ((wimpleref4_Data.f k a0 bt134.2.1 bt134.1 bt125.2.1).bind fun bt137 => (some (bt125.1, bt125.2.1, bt125.2.2.1, bt131.1, bt137.1, wrap64 (bt134.2.1 + bt134.1), (bt137.2 == 0)))) else (some ((⟨#[]⟩ : ByteArray), 0, 0, 0, (⟨#[]⟩ : ByteArray), 0, false))) else (some ((⟨#[]⟩ : ByteArray), 0, 0, 0, (⟨#[]⟩ : ByteArray), 0, false))))) else (some ((⟨#[]⟩ : ByteArray), 0, 0, 0, (⟨#[]⟩ : ByteArray), 0, false)))) = some (r1, r2, r3, r4, r5, r6, r7) := h
  clear h
  replace H := Option.bind_eq_some_iff.mp H
  obtain ⟨⟨t125, t126, t127, t128, t129⟩, A30, H⟩ := H
  replace H : (if t129 = true then ((wimpleref1_Num.f k a0 t128 4).bind fun bt131 => ((wimpleref1_Num.f k a0 bt131.2.1 2).bind fun bt134 => (if bt131.2.2 = 0 then (if bt134.2.2 = 0 then ((wimpleref4_Data.f k a0 bt134.2.1 bt134.1 t126).bind fun bt137 => (some (t125, t126, t127, bt131.1, bt137.1, wrap64 (bt134.2.1 + bt134.1), (bt137.2 == 0)))) else (some ((⟨#[]⟩ : ByteArray), 0, 0, 0, (⟨#[]⟩ : ByteArray), 0, false))) else (some ((⟨#[]⟩ : ByteArray), 0, 0, 0, (⟨#[]⟩ : ByteArray), 0, false))))) else (some ((⟨#[]⟩ : ByteArray), 0, 0, 0, (⟨#[]⟩ : ByteArray), 0, false))) = some (r1, r2, r3, r4, r5, r6, r7) := H
  have A3 := Aside0.mk A30
  clear A30
  by_cases c4 : t129 = true
  · subst c4
    have H1 : ((wimpleref1_Num.f k a0 t128 4).bind fun bt131 => ((wimpleref1_Num.f k a0 bt131.2.1 2).bind fun bt134 => (if bt131.2.2 = 0 then (if bt134.2.2 = 0 then ((wimpleref4_Data.f k a0 bt134.2.1 bt134.1 t126).bind fun bt137 => (some (t125, t126, t127, bt131.1, bt137.1, wrap64 (bt134.2.1 + bt134.1), (bt137.2 == 0)))) else (some ((⟨#[]⟩ : ByteArray), 0, 0, 0, (⟨#[]⟩ : ByteArray), 0, false))) else (some ((⟨#[]⟩ : ByteArray), 0, 0, 0, (⟨#[]⟩ : ByteArray), 0, false))))) = some (r1, r2, r3, r4, r5, r6, r7) := by rw [if_pos rfl] at H; exact H
    clear H
    have H := H1
    clear H1
    replace H := Option.bind_eq_some_iff.mp H
    obtain ⟨⟨t131, t132, t133⟩, A50, H⟩ := H
    replace H : ((wimpleref1_Num.f k a0 t132 2).bind fun bt134 => (if t133 = 0 then (if bt134.2.2 = 0 then ((wimpleref4_Data.f k a0 bt134.2.1 bt134.1 t126).bind fun bt137 => (some (t125, t126, t127, t131, bt137.1, wrap64 (bt134.2.1 + bt134.1), (bt137.2 == 0)))) else (some ((⟨#[]⟩ : ByteArray), 0, 0, 0, (⟨#[]⟩ : ByteArray), 0, false))) else (some ((⟨#[]⟩ : ByteArray), 0, 0, 0, (⟨#[]⟩ : ByteArray), 0, false)))) = some (r1, r2, r3, r4, r5, r6, r7) := H
    have A5 := Aside0.mk A50
    clear A50
    replace H := Option.bind_eq_some_iff.mp H
    obtain ⟨⟨t134, t135, t136⟩, A60, H⟩ := H
    replace H : (if t133 = 0 then (if t136 = 0 then ((wimpleref4_Data.f k a0 t135 t134 t126).bind fun bt137 => (some (t125, t126, t127, t131, bt137.1, wrap64 (t135 + t134), (bt137.2 == 0)))) else (some ((⟨#[]⟩ : ByteArray), 0, 0, 0, (⟨#[]⟩ : ByteArray), 0, false))) else (some ((⟨#[]⟩ : ByteArray), 0, 0, 0, (⟨#[]⟩ : ByteArray), 0, false))) = some (r1, r2, r3, r4, r5, r6, r7) := H
    have A6 := Aside0.mk A60
    clear A60
    by_cases c7 : t133 = 0
    · rw [if_pos c7] at H
      have c7b0 : (t133 == 0) = true := beq_iff_eq.mpr c7
      have c7b1 : (t133 != 0) = false := bne_eq_false_iff_eq.mpr c7
      clear c7
      by_cases c8 : t136 = 0
      · rw [if_pos c8] at H
        have c8b0 : (t136 == 0) = true := beq_iff_eq.mpr c8
        have c8b1 : (t136 != 0) = false := bne_eq_false_iff_eq.mpr c8
        clear c8
        replace H := Option.bind_eq_some_iff.mp H
        obtain ⟨⟨t137, t138⟩, A90, H⟩ := H
        replace H : (some (t125, t126, t127, t131, t137, wrap64 (t135 + t134), (t138 == 0))) = some (r1, r2, r3, r4, r5, r6, r7) := H
        have A9 := Aside0.mk A90
        clear A90
        simp only [Option.some.injEq, Prod.mk.injEq] at H
        obtain ⟨rfl, rfl, rfl, rfl, rfl, rfl, rfl⟩ := H
        go_enter Try.func50, Try.ntmps50
        go_wp2_with (first | ((with_reducible refine gate_dst (N := 4) rfl ?_); refine box_event ?hg (N := 4) ?hd (cs := #[.string (⟨#[]⟩ : ByteArray), .int .i64 0, .int .i64 0, .int .i64 0, .string (⟨#[]⟩ : ByteArray)]) (t := 53) ?hr ?_; (case hd => rfl); (case hg => rfl); (case hr => first | (go_simp; done) | (go_simp; rfl)); intro gb124 hg w10 hbox hb; have n0_ := Aside0.mk (below_step (by repeat (first | (with_reducible first | exact HB.out | apply below_alloc | apply pw_below_drewN | apply below_drew1) | exact HB.out)) hb); have n1_ := Aside0.mk (hbox); have n2_ := Aside0.mk ((by rw [hg]; exact (below_size (by repeat (first | (with_reducible first | exact HB.out | apply below_alloc | apply pw_below_drewN | apply below_drew1) | exact HB.out))) : w.heap.size ≤ gb124)); have n3_ := Aside0.mk ((by rw [hg]; exact (below_size (by repeat (first | (with_reducible first | exact HB.out | apply below_alloc | apply pw_below_drewN | apply below_drew1) | exact HB.out))) : w.heap.size ≤ gb124)); clear HB; have HB := n0_; have BK124 := n1_; have GW124 := n2_; have GE124 := n3_; clear n0_ n1_ n2_ n3_; clear hb hbox hg) | ((with_reducible refine gate_dst (N := 21) rfl ?_); (with_reducible refine gate_callee (f := 49) rfl ?_); refine goesL_ (some 21) rfl rfl Try.func49 (by kernel_rfl) rfl #[.string a0, .int .i64 a1] rfl (by (try simp only [List.map_toArray, List.map_cons, List.map_nil]); first | done | rfl | (simp only [List.length_drop, List.length_take]; rfl)) ?_; (with_reducible refine (wimpleref4_question.calls k a0 a1 t125 t126 t127 t128 true _ A3.out).mono ?_); rintro e w11 ⟨rfl, hb⟩; refine ⟨_, rfl, ?_⟩; have n0_ := Aside0.mk (blk_below (g := gb124) (o := .cells #[.string (⟨#[]⟩ : ByteArray), .int .i64 0, .int .i64 0, .int .i64 0, .string (⟨#[]⟩ : ByteArray)] 53 (0, 0)) (by (with_reducible repeat (first | refine blk_drewN ?_ _ | refine blk_drew ?_ | refine blk_alloc ?_ _)); exact BK124.out) hb); have n1_ := Aside0.mk (below_step (by repeat (first | (with_reducible first | exact HB.out | apply below_alloc | apply pw_below_drewN | apply below_drew1 | refine below_set ?_ GE124.out) | exact HB.out)) hb); clear BK124; clear HB; have BK124 := n0_; have HB := n1_; clear n0_ n1_; (try clear hb); (try clear hb2); (try clear hk); (try clear hi)) | ((with_reducible refine gate_dst (N := 7) rfl ?_); refine box_event ?hg (N := 7) ?hd (cs := #[.string (⟨#[]⟩ : ByteArray), .int .i64 0, .int .i64 0]) (t := 40) ?hr ?_; (case hd => rfl); (case hg => rfl); (case hr => first | (go_simp; done) | (go_simp; rfl)); intro gb130 hg w12 hbox hb; have n0_ := Aside0.mk (blk_below (g := gb124) (o := .cells #[.string (⟨#[]⟩ : ByteArray), .int .i64 0, .int .i64 0, .int .i64 0, .string (⟨#[]⟩ : ByteArray)] 53 (0, 0)) (by (with_reducible repeat (first | refine blk_drewN ?_ _ | refine blk_drew ?_ | refine blk_alloc ?_ _)); exact BK124.out) hb); have n1_ := Aside0.mk (below_step (by repeat (first | (with_reducible first | exact HB.out | apply below_alloc | apply pw_below_drewN | apply below_drew1 | refine below_set ?_ GE124.out) | exact HB.out)) hb); have n2_ := Aside0.mk (hbox); have n3_ := Aside0.mk ((by rw [hg]; exact (below_size (by repeat (first | (with_reducible first | exact HB.out | apply below_alloc | apply pw_below_drewN | apply below_drew1 | refine below_set ?_ GE124.out) | exact HB.out))) : w.heap.size ≤ gb130)); have n4_ := Aside0.mk ((by rw [hg]; exact (below_size (by repeat (first | (with_reducible first | exact HB.out | apply below_alloc | apply pw_below_drewN | apply below_drew1 | refine below_set ?_ GE124.out) | exact HB.out))) : w.heap.size ≤ gb130)); have n5_ := Aside0.mk ((by rw [hg]; exact Nat.ne_of_lt (blk_lt (g := gb124) (o := .cells #[.string (⟨#[]⟩ : ByteArray), .int .i64 0, .int .i64 0, .int .i64 0, .string (⟨#[]⟩ : ByteArray)] 53 (0, 0)) (by (with_reducible repeat (first | refine blk_drewN ?_ _ | refine blk_drew ?_ | refine blk_alloc ?_ _)); exact BK124.out)) : gb124 ≠ gb130)); have n6_ := Aside0.mk ((by rw [hg]; exact Nat.ne_of_gt (blk_lt (g := gb124) (o := .cells #[.string (⟨#[]⟩ : ByteArray), .int .i64 0, .int .i64 0, .int .i64 0, .string (⟨#[]⟩ : ByteArray)] 53 (0, 0)) (by (with_reducible repeat (first | refine blk_drewN ?_ _ | refine blk_drew ?_ | refine blk_alloc ?_ _)); exact BK124.out)) : gb130 ≠ gb124)); clear BK124; clear HB; have BK124 := n0_; have HB := n1_; have BK130 := n2_; have GW130 := n3_; have GE130 := n4_; have NB124_130 := n5_; have NB130_124 := n6_; clear n0_ n1_ n2_ n3_ n4_ n5_ n6_; clear hb hbox hg; have hnb13 := NB130_124.out; have hnc13 := NB124_130.out; (try clear hcz12_0 hcz12_1 hcz12_2 hfz12_0 hfz12_1 hfz12_2); (try clear hcz15_0 hcz15_1 hcz15_2 hfz15_0 hfz15_1 hfz15_2); (try clear hcz16_0 hcz16_1 hcz16_2 hfz16_0 hfz16_1 hfz16_2); (try clear hcz19_0 hcz19_1 hcz19_2 hfz19_0 hfz19_1 hfz19_2); (try clear hcz20_0 hcz20_1 hcz20_2 hfz20_0 hfz20_1 hfz20_2); (try clear hcz23_0 hcz23_1 hcz23_2 hfz23_0 hfz23_1 hfz23_2); have hcz14_0 : w12.cell? ⟨gb130, 0, none⟩ = some (.string (⟨#[]⟩ : ByteArray)) := (blk_cell BK130.out 0).trans rfl; have hcz14_1 : w12.cell? ⟨gb130, 1, none⟩ = some (.int .i64 0) := (blk_cell BK130.out 1).trans rfl; have hcz14_2 : w12.cell? ⟨gb130, 2, none⟩ = some (.int .i64 0) := (blk_cell BK130.out 2).trans rfl; have hfz14_0 := blk_frozen BK130.out 0; have hfz14_1 := blk_frozen BK130.out 1; have hfz14_2 := blk_frozen BK130.out 2) | ((with_reducible refine gate_dst (N := 31) rfl ?_); (with_reducible refine gate_callee (f := 54) rfl ?_); refine goesL_ (some 31) rfl rfl Try.func54 (by kernel_rfl) rfl #[.string a0, .int .i64 t128, .int .i64 4] rfl (by (try simp only [List.map_toArray, List.map_cons, List.map_nil]); first | done | rfl | (simp only [List.length_drop, List.length_take]; rfl)) ?_; (with_reducible refine (wimpleref1_Num.calls k a0 t128 4 t131 t132 t133 _ A5.out).mono ?_); rintro e w' ⟨rfl, ⟨nd, rfl⟩⟩; refine ⟨_, rfl, ?_⟩) | ((with_reducible refine gate_dst (N := 38) rfl ?_); (with_reducible refine gate_callee (f := 54) rfl ?_); refine goesL_ (some 38) rfl rfl Try.func54 (by kernel_rfl) rfl #[.string a0, .int .i64 t132, .int .i64 2] rfl (by (try simp only [List.map_toArray, List.map_cons, List.map_nil]); first | done | rfl | (simp only [List.length_drop, List.length_take]; rfl)) ?_; (with_reducible refine (wimpleref1_Num.calls k a0 t132 2 t134 t135 t136 _ A6.out).mono ?_); rintro e w' ⟨rfl, ⟨nd, rfl⟩⟩; refine ⟨_, rfl, ?_⟩) | ((with_reducible refine gate_dst (N := 55) rfl ?_); (with_reducible refine gate_callee (f := 80) rfl ?_); refine goesL_ (some 55) rfl rfl Try.func80 (by kernel_rfl) rfl #[.string a0, .int .i64 t135, .int .i64 t134, .int .i64 t126] rfl (by (try simp only [List.map_toArray, List.map_cons, List.map_nil]); first | done | rfl | (simp only [List.length_drop, List.length_take]; rfl)) ?_; (with_reducible refine (wimpleref4_Data.calls k a0 t135 t134 t126 t137 t138 _ A9.out).mono ?_); rintro e w15 ⟨rfl, hb⟩; refine ⟨_, rfl, ?_⟩; have n0_ := Aside0.mk (blk_below (g := gb124) (o := .cells #[.string (⟨#[]⟩ : ByteArray), .int .i64 0, .int .i64 0, .int .i64 0, .string (⟨#[]⟩ : ByteArray)] 53 (0, 0)) (by (with_reducible repeat (first | refine blk_drewN ?_ _ | refine blk_drew ?_ | refine blk_alloc ?_ _)); refine blk_far ?_ NB124_130.out _; (with_reducible repeat (first | refine blk_drewN ?_ _ | refine blk_drew ?_ | refine blk_alloc ?_ _)); refine blk_far ?_ NB124_130.out _; (with_reducible repeat (first | refine blk_drewN ?_ _ | refine blk_drew ?_ | refine blk_alloc ?_ _)); refine blk_far ?_ NB124_130.out _; (with_reducible repeat (first | refine blk_drewN ?_ _ | refine blk_drew ?_ | refine blk_alloc ?_ _)); exact BK124.out) hb); have n1_ := Aside0.mk (blk_below (g := gb130) (o := .cells #[.string t125, .int .i64 t126, .int .i64 t127] 40 (0, 0)) (by (with_reducible repeat (first | refine blk_drewN ?_ _ | refine blk_drew ?_ | refine blk_alloc ?_ _)); refine blk_put (cs := #[.string t125, .int .i64 t126, .int .i64 0]) ?_ 2 _ rfl; (with_reducible repeat (first | refine blk_drewN ?_ _ | refine blk_drew ?_ | refine blk_alloc ?_ _)); refine blk_put (cs := #[.string t125, .int .i64 0, .int .i64 0]) ?_ 1 _ rfl; (with_reducible repeat (first | refine blk_drewN ?_ _ | refine blk_drew ?_ | refine blk_alloc ?_ _)); refine blk_put (cs := #[.string (⟨#[]⟩ : ByteArray), .int .i64 0, .int .i64 0]) ?_ 0 _ rfl; (with_reducible repeat (first | refine blk_drewN ?_ _ | refine blk_drew ?_ | refine blk_alloc ?_ _)); exact BK130.out) hb); have n2_ := Aside0.mk (below_step (by repeat (first | (with_reducible first | exact HB.out | apply below_alloc | apply pw_below_drewN | apply below_drew1 | refine below_set ?_ GE124.out | refine below_set ?_ GE130.out) | exact HB.out)) hb); clear BK124; clear BK130; clear HB; have BK124 := n0_; have BK130 := n1_; have HB := n2_; clear n0_ n1_ n2_; (try clear hb); (try clear hb2); (try clear hk); (try clear hi); (try clear hcz12_0 hcz12_1 hcz12_2 hfz12_0 hfz12_1 hfz12_2); (try clear hcz15_0 hcz15_1 hcz15_2 hfz15_0 hfz15_1 hfz15_2); (try clear hcz19_0 hcz19_1 hcz19_2 hfz19_0 hfz19_1 hfz19_2); (try clear hcz20_0 hcz20_1 hcz20_2 hfz20_0 hfz20_1 hfz20_2); (try clear hcz23_0 hcz23_1 hcz23_2 hfz23_0 hfz23_1 hfz23_2); (try clear hcz14_0 hcz14_1 hcz14_2 hfz14_0 hfz14_1 hfz14_2); have hcz16_0 : w15.cell? ⟨gb130, 0, none⟩ = some (.string t125) := (blk_cell BK130.out 0).trans rfl; have hcz16_1 : w15.cell? ⟨gb130, 1, none⟩ = some (.int .i64 t126) := (blk_cell BK130.out 1).trans rfl; have hcz16_2 : w15.cell? ⟨gb130, 2, none⟩ = some (.int .i64 t127) := (blk_cell BK130.out 2).trans rfl; have hfz16_0 := blk_frozen BK130.out 0; have hfz16_1 := blk_frozen BK130.out 1; have hfz16_2 := blk_frozen BK130.out 2; (try clear hcz15_0 hcz15_1 hcz15_2 hfz15_0 hfz15_1 hfz15_2); (try clear hcz19_0 hcz19_1 hcz19_2 hfz19_0 hfz19_1 hfz19_2); (try clear hcz20_0 hcz20_1 hcz20_2 hfz20_0 hfz20_1 hfz20_2); (try clear hcz23_0 hcz23_1 hcz23_2 hfz23_0 hfz23_1 hfz23_2); (try clear hcz14_0 hcz14_1 hcz14_2 hfz14_0 hfz14_1 hfz14_2); have hcz17_0 : w15.cell? ⟨gb124, 0, none⟩ = some (.string (⟨#[]⟩ : ByteArray)) := (blk_cell BK124.out 0).trans rfl; have hcz17_1 : w15.cell? ⟨gb124, 1, none⟩ = some (.int .i64 0) := (blk_cell BK124.out 1).trans rfl; have hcz17_2 : w15.cell? ⟨gb124, 2, none⟩ = some (.int .i64 0) := (blk_cell BK124.out 2).trans rfl; have hcz17_3 : w15.cell? ⟨gb124, 3, none⟩ = some (.int .i64 0) := (blk_cell BK124.out 3).trans rfl; have hcz17_4 : w15.cell? ⟨gb124, 4, none⟩ = some (.string (⟨#[]⟩ : ByteArray)) := (blk_cell BK124.out 4).trans rfl; have hfz17_0 := blk_frozen BK124.out 0; have hfz17_1 := blk_frozen BK124.out 1; have hfz17_2 := blk_frozen BK124.out 2; have hfz17_3 := blk_frozen BK124.out 3; have hfz17_4 := blk_frozen BK124.out 4))
        refine bodyPost_ret (results_ctt rfl _ _ gb124 53 #[.string t125, .int .i64 t126, .int .i64 t127, .int .i64 t131, .string t137] (0, 0) _ rfl (by (with_reducible repeat (first | refine blk_drewN ?_ _ | refine blk_drew ?_ | refine blk_alloc ?_ _)); refine blk_put (cs := #[.string t125, .int .i64 t126, .int .i64 t127, .int .i64 t131, .string (⟨#[]⟩ : ByteArray)]) ?_ 4 _ rfl; (with_reducible repeat (first | refine blk_drewN ?_ _ | refine blk_drew ?_ | refine blk_alloc ?_ _)); refine blk_put (cs := #[.string t125, .int .i64 t126, .int .i64 t127, .int .i64 0, .string (⟨#[]⟩ : ByteArray)]) ?_ 3 _ rfl; (with_reducible repeat (first | refine blk_drewN ?_ _ | refine blk_drew ?_ | refine blk_alloc ?_ _)); refine blk_put (cs := #[.string t125, .int .i64 t126, .int .i64 0, .int .i64 0, .string (⟨#[]⟩ : ByteArray)]) ?_ 2 _ rfl; (with_reducible repeat (first | refine blk_drewN ?_ _ | refine blk_drew ?_ | refine blk_alloc ?_ _)); refine blk_put (cs := #[.string t125, .int .i64 0, .int .i64 0, .int .i64 0, .string (⟨#[]⟩ : ByteArray)]) ?_ 1 _ rfl; (with_reducible repeat (first | refine blk_drewN ?_ _ | refine blk_drew ?_ | refine blk_alloc ?_ _)); refine blk_put (cs := #[.string (⟨#[]⟩ : ByteArray), .int .i64 0, .int .i64 0, .int .i64 0, .string (⟨#[]⟩ : ByteArray)]) ?_ 0 _ rfl; (with_reducible repeat (first | refine blk_drewN ?_ _ | refine blk_drew ?_ | refine blk_alloc ?_ _)); exact BK124.out) Try.underlying53 rfl (by kernel_rfl)) rfl ?_
        exact ⟨by first | rfl | (simp [errW_none, errW_some] <;> rfl) | (simp [*, errW_none, errW_some] <;> rfl), by repeat (first | (with_reducible first | exact HB.out | apply below_alloc | apply pw_below_drewN | apply below_drew1 | refine below_set ?_ GE124.out | refine below_set ?_ GE130.out) | exact HB.out)⟩
      · rw [if_neg c8] at H
        have c8b0 : (t136 == 0) = false := beq_eq_false_iff_ne.mpr c8
        have c8b1 : (t136 != 0) = true := bne_iff_ne.mpr c8
        simp only [Option.some.injEq, Prod.mk.injEq] at H
        obtain ⟨rfl, rfl, rfl, rfl, rfl, rfl, rfl⟩ := H
        go_enter Try.func50, Try.ntmps50
        go_wp2_with (first | ((with_reducible refine gate_dst (N := 4) rfl ?_); refine box_event ?hg (N := 4) ?hd (cs := #[.string (⟨#[]⟩ : ByteArray), .int .i64 0, .int .i64 0, .int .i64 0, .string (⟨#[]⟩ : ByteArray)]) (t := 53) ?hr ?_; (case hd => rfl); (case hg => rfl); (case hr => first | (go_simp; done) | (go_simp; rfl)); intro gb124 hg w18 hbox hb; have n0_ := Aside0.mk (below_step (by repeat (first | (with_reducible first | exact HB.out | apply below_alloc | apply pw_below_drewN | apply below_drew1) | exact HB.out)) hb); have n1_ := Aside0.mk (hbox); have n2_ := Aside0.mk ((by rw [hg]; exact (below_size (by repeat (first | (with_reducible first | exact HB.out | apply below_alloc | apply pw_below_drewN | apply below_drew1) | exact HB.out))) : w.heap.size ≤ gb124)); have n3_ := Aside0.mk ((by rw [hg]; exact (below_size (by repeat (first | (with_reducible first | exact HB.out | apply below_alloc | apply pw_below_drewN | apply below_drew1) | exact HB.out))) : w.heap.size ≤ gb124)); clear HB; have HB := n0_; have BK124 := n1_; have GW124 := n2_; have GE124 := n3_; clear n0_ n1_ n2_ n3_; clear hb hbox hg) | ((with_reducible refine gate_dst (N := 21) rfl ?_); (with_reducible refine gate_callee (f := 49) rfl ?_); refine goesL_ (some 21) rfl rfl Try.func49 (by kernel_rfl) rfl #[.string a0, .int .i64 a1] rfl (by (try simp only [List.map_toArray, List.map_cons, List.map_nil]); first | done | rfl | (simp only [List.length_drop, List.length_take]; rfl)) ?_; (with_reducible refine (wimpleref4_question.calls k a0 a1 t125 t126 t127 t128 true _ A3.out).mono ?_); rintro e w19 ⟨rfl, hb⟩; refine ⟨_, rfl, ?_⟩; have n0_ := Aside0.mk (blk_below (g := gb124) (o := .cells #[.string (⟨#[]⟩ : ByteArray), .int .i64 0, .int .i64 0, .int .i64 0, .string (⟨#[]⟩ : ByteArray)] 53 (0, 0)) (by (with_reducible repeat (first | refine blk_drewN ?_ _ | refine blk_drew ?_ | refine blk_alloc ?_ _)); exact BK124.out) hb); have n1_ := Aside0.mk (below_step (by repeat (first | (with_reducible first | exact HB.out | apply below_alloc | apply pw_below_drewN | apply below_drew1 | refine below_set ?_ GE124.out) | exact HB.out)) hb); clear BK124; clear HB; have BK124 := n0_; have HB := n1_; clear n0_ n1_; (try clear hb); (try clear hb2); (try clear hk); (try clear hi)) | ((with_reducible refine gate_dst (N := 7) rfl ?_); refine box_event ?hg (N := 7) ?hd (cs := #[.string (⟨#[]⟩ : ByteArray), .int .i64 0, .int .i64 0]) (t := 40) ?hr ?_; (case hd => rfl); (case hg => rfl); (case hr => first | (go_simp; done) | (go_simp; rfl)); intro gb130 hg w20 hbox hb; have n0_ := Aside0.mk (blk_below (g := gb124) (o := .cells #[.string (⟨#[]⟩ : ByteArray), .int .i64 0, .int .i64 0, .int .i64 0, .string (⟨#[]⟩ : ByteArray)] 53 (0, 0)) (by (with_reducible repeat (first | refine blk_drewN ?_ _ | refine blk_drew ?_ | refine blk_alloc ?_ _)); exact BK124.out) hb); have n1_ := Aside0.mk (below_step (by repeat (first | (with_reducible first | exact HB.out | apply below_alloc | apply pw_below_drewN | apply below_drew1 | refine below_set ?_ GE124.out) | exact HB.out)) hb); have n2_ := Aside0.mk (hbox); have n3_ := Aside0.mk ((by rw [hg]; exact (below_size (by repeat (first | (with_reducible first | exact HB.out | apply below_alloc | apply pw_below_drewN | apply below_drew1 | refine below_set ?_ GE124.out) | exact HB.out))) : w.heap.size ≤ gb130)); have n4_ := Aside0.mk ((by rw [hg]; exact (below_size (by repeat (first | (with_reducible first | exact HB.out | apply below_alloc | apply pw_below_drewN | apply below_drew1 | refine below_set ?_ GE124.out) | exact HB.out))) : w.heap.size ≤ gb130)); have n5_ := Aside0.mk ((by rw [hg]; exact Nat.ne_of_lt (blk_lt (g := gb124) (o := .cells #[.string (⟨#[]⟩ : ByteArray), .int .i64 0, .int .i64 0, .int .i64 0, .string (⟨#[]⟩ : ByteArray)] 53 (0, 0)) (by (with_reducible repeat (first | refine blk_drewN ?_ _ | refine blk_drew ?_ | refine blk_alloc ?_ _)); exact BK124.out)) : gb124 ≠ gb130)); have n6_ := Aside0.mk ((by rw [hg]; exact Nat.ne_of_gt (blk_lt (g := gb124) (o := .cells #[.string (⟨#[]⟩ : ByteArray), .int .i64 0, .int .i64 0, .int .i64 0, .string (⟨#[]⟩ : ByteArray)] 53 (0, 0)) (by (with_reducible repeat (first | refine blk_drewN ?_ _ | refine blk_drew ?_ | refine blk_alloc ?_ _)); exact BK124.out)) : gb130 ≠ gb124)); clear BK124; clear HB; have BK124 := n0_; have HB := n1_; have BK130 := n2_; have GW130 := n3_; have GE130 := n4_; have NB124_130 := n5_; have NB130_124 := n6_; clear n0_ n1_ n2_ n3_ n4_ n5_ n6_; clear hb hbox hg; have hnb21 := NB130_124.out; have hnc21 := NB124_130.out; (try clear hcz19_0 hcz19_1 hcz19_2 hfz19_0 hfz19_1 hfz19_2); (try clear hcz20_0 hcz20_1 hcz20_2 hfz20_0 hfz20_1 hfz20_2); (try clear hcz23_0 hcz23_1 hcz23_2 hfz23_0 hfz23_1 hfz23_2); (try clear hcz14_0 hcz14_1 hcz14_2 hfz14_0 hfz14_1 hfz14_2); (try clear hcz16_0 hcz16_1 hcz16_2 hfz16_0 hfz16_1 hfz16_2); (try clear hcz17_0 hcz17_1 hcz17_2 hcz17_3 hcz17_4 hfz17_0 hfz17_1 hfz17_2 hfz17_3 hfz17_4); have hcz22_0 : w20.cell? ⟨gb130, 0, none⟩ = some (.string (⟨#[]⟩ : ByteArray)) := (blk_cell BK130.out 0).trans rfl; have hcz22_1 : w20.cell? ⟨gb130, 1, none⟩ = some (.int .i64 0) := (blk_cell BK130.out 1).trans rfl; have hcz22_2 : w20.cell? ⟨gb130, 2, none⟩ = some (.int .i64 0) := (blk_cell BK130.out 2).trans rfl; have hfz22_0 := blk_frozen BK130.out 0; have hfz22_1 := blk_frozen BK130.out 1; have hfz22_2 := blk_frozen BK130.out 2) | ((with_reducible refine gate_dst (N := 31) rfl ?_); (with_reducible refine gate_callee (f := 54) rfl ?_); refine goesL_ (some 31) rfl rfl Try.func54 (by kernel_rfl) rfl #[.string a0, .int .i64 t128, .int .i64 4] rfl (by (try simp only [List.map_toArray, List.map_cons, List.map_nil]); first | done | rfl | (simp only [List.length_drop, List.length_take]; rfl)) ?_; (with_reducible refine (wimpleref1_Num.calls k a0 t128 4 t131 t132 t133 _ A5.out).mono ?_); rintro e w' ⟨rfl, ⟨nd, rfl⟩⟩; refine ⟨_, rfl, ?_⟩) | ((with_reducible refine gate_dst (N := 38) rfl ?_); (with_reducible refine gate_callee (f := 54) rfl ?_); refine goesL_ (some 38) rfl rfl Try.func54 (by kernel_rfl) rfl #[.string a0, .int .i64 t132, .int .i64 2] rfl (by (try simp only [List.map_toArray, List.map_cons, List.map_nil]); first | done | rfl | (simp only [List.length_drop, List.length_take]; rfl)) ?_; (with_reducible refine (wimpleref1_Num.calls k a0 t132 2 t134 t135 t136 _ A6.out).mono ?_); rintro e w' ⟨rfl, ⟨nd, rfl⟩⟩; refine ⟨_, rfl, ?_⟩; (try clear hcz19_0 hcz19_1 hcz19_2 hfz19_0 hfz19_1 hfz19_2); (try clear hcz20_0 hcz20_1 hcz20_2 hfz20_0 hfz20_1 hfz20_2); (try clear hcz14_0 hcz14_1 hcz14_2 hfz14_0 hfz14_1 hfz14_2); (try clear hcz16_0 hcz16_1 hcz16_2 hfz16_0 hfz16_1 hfz16_2); (try clear hcz17_0 hcz17_1 hcz17_2 hcz17_3 hcz17_4 hfz17_0 hfz17_1 hfz17_2 hfz17_3 hfz17_4); have hcz23_0 : w20.cell? ⟨gb124, 0, none⟩ = some (.string (⟨#[]⟩ : ByteArray)) := (blk_cell BK124.out 0).trans rfl; have hcz23_1 : w20.cell? ⟨gb124, 1, none⟩ = some (.int .i64 0) := (blk_cell BK124.out 1).trans rfl; have hcz23_2 : w20.cell? ⟨gb124, 2, none⟩ = some (.int .i64 0) := (blk_cell BK124.out 2).trans rfl; have hcz23_3 : w20.cell? ⟨gb124, 3, none⟩ = some (.int .i64 0) := (blk_cell BK124.out 3).trans rfl; have hcz23_4 : w20.cell? ⟨gb124, 4, none⟩ = some (.string (⟨#[]⟩ : ByteArray)) := (blk_cell BK124.out 4).trans rfl; have hfz23_0 := blk_frozen BK124.out 0; have hfz23_1 := blk_frozen BK124.out 1; have hfz23_2 := blk_frozen BK124.out 2; have hfz23_3 := blk_frozen BK124.out 3; have hfz23_4 := blk_frozen BK124.out 4))
        refine bodyPost_ret (results_ctt rfl _ _ gb124 53 #[.string (⟨#[]⟩ : ByteArray), .int .i64 0, .int .i64 0, .int .i64 0, .string (⟨#[]⟩ : ByteArray)] (0, 0) _ rfl (by (with_reducible repeat (first | refine blk_drewN ?_ _ | refine blk_drew ?_ | refine blk_alloc ?_ _)); refine blk_put (cs := #[.string (⟨#[]⟩ : ByteArray), .int .i64 0, .int .i64 0, .int .i64 0, .string (⟨#[]⟩ : ByteArray)]) ?_ 4 _ rfl; (with_reducible repeat (first | refine blk_drewN ?_ _ | refine blk_drew ?_ | refine blk_alloc ?_ _)); refine blk_put (cs := #[.string (⟨#[]⟩ : ByteArray), .int .i64 0, .int .i64 0, .int .i64 0, .string (⟨#[]⟩ : ByteArray)]) ?_ 3 _ rfl; (with_reducible repeat (first | refine blk_drewN ?_ _ | refine blk_drew ?_ | refine blk_alloc ?_ _)); refine blk_put (cs := #[.string (⟨#[]⟩ : ByteArray), .int .i64 0, .int .i64 0, .int .i64 0, .string (⟨#[]⟩ : ByteArray)]) ?_ 2 _ rfl; (with_reducible repeat (first | refine blk_drewN ?_ _ | refine blk_drew ?_ | refine blk_alloc ?_ _)); refine blk_put (cs := #[.string (⟨#[]⟩ : ByteArray), .int .i64 0, .int .i64 0, .int .i64 0, .string (⟨#[]⟩ : ByteArray)]) ?_ 1 _ rfl; (with_reducible repeat (first | refine blk_drewN ?_ _ | refine blk_drew ?_ | refine blk_alloc ?_ _)); refine blk_put (cs := #[.string (⟨#[]⟩ : ByteArray), .int .i64 0, .int .i64 0, .int .i64 0, .string (⟨#[]⟩ : ByteArray)]) ?_ 0 _ rfl; (with_reducible repeat (first | refine blk_drewN ?_ _ | refine blk_drew ?_ | refine blk_alloc ?_ _)); refine blk_far ?_ NB124_130.out _; (with_reducible repeat (first | refine blk_drewN ?_ _ | refine blk_drew ?_ | refine blk_alloc ?_ _)); refine blk_far ?_ NB124_130.out _; (with_reducible repeat (first | refine blk_drewN ?_ _ | refine blk_drew ?_ | refine blk_alloc ?_ _)); refine blk_far ?_ NB124_130.out _; (with_reducible repeat (first | refine blk_drewN ?_ _ | refine blk_drew ?_ | refine blk_alloc ?_ _)); exact BK124.out) Try.underlying53 rfl (by kernel_rfl)) rfl ?_
        exact ⟨by first | rfl | (simp [errW_none, errW_some] <;> rfl) | (simp [*, errW_none, errW_some] <;> rfl), by repeat (first | (with_reducible first | exact HB.out | apply below_alloc | apply pw_below_drewN | apply below_drew1 | refine below_set ?_ GE124.out | refine below_set ?_ GE130.out) | exact HB.out)⟩
    · rw [if_neg c7] at H
      have c7b0 : (t133 == 0) = false := beq_eq_false_iff_ne.mpr c7
      have c7b1 : (t133 != 0) = true := bne_iff_ne.mpr c7
      simp only [Option.some.injEq, Prod.mk.injEq] at H
      obtain ⟨rfl, rfl, rfl, rfl, rfl, rfl, rfl⟩ := H
      go_enter Try.func50, Try.ntmps50
      go_wp2_with (first | ((with_reducible refine gate_dst (N := 4) rfl ?_); refine box_event ?hg (N := 4) ?hd (cs := #[.string (⟨#[]⟩ : ByteArray), .int .i64 0, .int .i64 0, .int .i64 0, .string (⟨#[]⟩ : ByteArray)]) (t := 53) ?hr ?_; (case hd => rfl); (case hg => rfl); (case hr => first | (go_simp; done) | (go_simp; rfl)); intro gb124 hg w24 hbox hb; have n0_ := Aside0.mk (below_step (by repeat (first | (with_reducible first | exact HB.out | apply below_alloc | apply pw_below_drewN | apply below_drew1) | exact HB.out)) hb); have n1_ := Aside0.mk (hbox); have n2_ := Aside0.mk ((by rw [hg]; exact (below_size (by repeat (first | (with_reducible first | exact HB.out | apply below_alloc | apply pw_below_drewN | apply below_drew1) | exact HB.out))) : w.heap.size ≤ gb124)); have n3_ := Aside0.mk ((by rw [hg]; exact (below_size (by repeat (first | (with_reducible first | exact HB.out | apply below_alloc | apply pw_below_drewN | apply below_drew1) | exact HB.out))) : w.heap.size ≤ gb124)); clear HB; have HB := n0_; have BK124 := n1_; have GW124 := n2_; have GE124 := n3_; clear n0_ n1_ n2_ n3_; clear hb hbox hg) | ((with_reducible refine gate_dst (N := 21) rfl ?_); (with_reducible refine gate_callee (f := 49) rfl ?_); refine goesL_ (some 21) rfl rfl Try.func49 (by kernel_rfl) rfl #[.string a0, .int .i64 a1] rfl (by (try simp only [List.map_toArray, List.map_cons, List.map_nil]); first | done | rfl | (simp only [List.length_drop, List.length_take]; rfl)) ?_; (with_reducible refine (wimpleref4_question.calls k a0 a1 t125 t126 t127 t128 true _ A3.out).mono ?_); rintro e w25 ⟨rfl, hb⟩; refine ⟨_, rfl, ?_⟩; have n0_ := Aside0.mk (blk_below (g := gb124) (o := .cells #[.string (⟨#[]⟩ : ByteArray), .int .i64 0, .int .i64 0, .int .i64 0, .string (⟨#[]⟩ : ByteArray)] 53 (0, 0)) (by (with_reducible repeat (first | refine blk_drewN ?_ _ | refine blk_drew ?_ | refine blk_alloc ?_ _)); exact BK124.out) hb); have n1_ := Aside0.mk (below_step (by repeat (first | (with_reducible first | exact HB.out | apply below_alloc | apply pw_below_drewN | apply below_drew1 | refine below_set ?_ GE124.out) | exact HB.out)) hb); clear BK124; clear HB; have BK124 := n0_; have HB := n1_; clear n0_ n1_; (try clear hb); (try clear hb2); (try clear hk); (try clear hi)) | ((with_reducible refine gate_dst (N := 7) rfl ?_); refine box_event ?hg (N := 7) ?hd (cs := #[.string (⟨#[]⟩ : ByteArray), .int .i64 0, .int .i64 0]) (t := 40) ?hr ?_; (case hd => rfl); (case hg => rfl); (case hr => first | (go_simp; done) | (go_simp; rfl)); intro gb130 hg w26 hbox hb; have n0_ := Aside0.mk (blk_below (g := gb124) (o := .cells #[.string (⟨#[]⟩ : ByteArray), .int .i64 0, .int .i64 0, .int .i64 0, .string (⟨#[]⟩ : ByteArray)] 53 (0, 0)) (by (with_reducible repeat (first | refine blk_drewN ?_ _ | refine blk_drew ?_ | refine blk_alloc ?_ _)); exact BK124.out) hb); have n1_ := Aside0.mk (below_step (by repeat (first | (with_reducible first | exact HB.out | apply below_alloc | apply pw_below_drewN | apply below_drew1 | refine below_set ?_ GE124.out) | exact HB.out)) hb); have n2_ := Aside0.mk (hbox); have n3_ := Aside0.mk ((by rw [hg]; exact (below_size (by repeat (first | (with_reducible first | exact HB.out | apply below_alloc | apply pw_below_drewN | apply below_drew1 | refine below_set ?_ GE124.out) | exact HB.out))) : w.heap.size ≤ gb130)); have n4_ := Aside0.mk ((by rw [hg]; exact (below_size (by repeat (first | (with_reducible first | exact HB.out | apply below_alloc | apply pw_below_drewN | apply below_drew1 | refine below_set ?_ GE124.out) | exact HB.out))) : w.heap.size ≤ gb130)); have n5_ := Aside0.mk ((by rw [hg]; exact Nat.ne_of_lt (blk_lt (g := gb124) (o := .cells #[.string (⟨#[]⟩ : ByteArray), .int .i64 0, .int .i64 0, .int .i64 0, .string (⟨#[]⟩ : ByteArray)] 53 (0, 0)) (by (with_reducible repeat (first | refine blk_drewN ?_ _ | refine blk_drew ?_ | refine blk_alloc ?_ _)); exact BK124.out)) : gb124 ≠ gb130)); have n6_ := Aside0.mk ((by rw [hg]; exact Nat.ne_of_gt (blk_lt (g := gb124) (o := .cells #[.string (⟨#[]⟩ : ByteArray), .int .i64 0, .int .i64 0, .int .i64 0, .string (⟨#[]⟩ : ByteArray)] 53 (0, 0)) (by (with_reducible repeat (first | refine blk_drewN ?_ _ | refine blk_drew ?_ | refine blk_alloc ?_ _)); exact BK124.out)) : gb130 ≠ gb124)); clear BK124; clear HB; have BK124 := n0_; have HB := n1_; have BK130 := n2_; have GW130 := n3_; have GE130 := n4_; have NB124_130 := n5_; have NB130_124 := n6_; clear n0_ n1_ n2_ n3_ n4_ n5_ n6_; clear hb hbox hg; have hnb27 := NB130_124.out; have hnc27 := NB124_130.out; (try clear hcz20_0 hcz20_1 hcz20_2 hfz20_0 hfz20_1 hfz20_2); (try clear hcz14_0 hcz14_1 hcz14_2 hfz14_0 hfz14_1 hfz14_2); (try clear hcz16_0 hcz16_1 hcz16_2 hfz16_0 hfz16_1 hfz16_2); (try clear hcz17_0 hcz17_1 hcz17_2 hcz17_3 hcz17_4 hfz17_0 hfz17_1 hfz17_2 hfz17_3 hfz17_4); (try clear hcz22_0 hcz22_1 hcz22_2 hfz22_0 hfz22_1 hfz22_2); (try clear hcz23_0 hcz23_1 hcz23_2 hcz23_3 hcz23_4 hfz23_0 hfz23_1 hfz23_2 hfz23_3 hfz23_4); have hcz28_0 : w26.cell? ⟨gb130, 0, none⟩ = some (.string (⟨#[]⟩ : ByteArray)) := (blk_cell BK130.out 0).trans rfl; have hcz28_1 : w26.cell? ⟨gb130, 1, none⟩ = some (.int .i64 0) := (blk_cell BK130.out 1).trans rfl; have hcz28_2 : w26.cell? ⟨gb130, 2, none⟩ = some (.int .i64 0) := (blk_cell BK130.out 2).trans rfl; have hfz28_0 := blk_frozen BK130.out 0; have hfz28_1 := blk_frozen BK130.out 1; have hfz28_2 := blk_frozen BK130.out 2) | ((with_reducible refine gate_dst (N := 31) rfl ?_); (with_reducible refine gate_callee (f := 54) rfl ?_); refine goesL_ (some 31) rfl rfl Try.func54 (by kernel_rfl) rfl #[.string a0, .int .i64 t128, .int .i64 4] rfl (by (try simp only [List.map_toArray, List.map_cons, List.map_nil]); first | done | rfl | (simp only [List.length_drop, List.length_take]; rfl)) ?_; (with_reducible refine (wimpleref1_Num.calls k a0 t128 4 t131 t132 t133 _ A5.out).mono ?_); rintro e w' ⟨rfl, ⟨nd, rfl⟩⟩; refine ⟨_, rfl, ?_⟩) | ((with_reducible refine gate_dst (N := 38) rfl ?_); (with_reducible refine gate_callee (f := 54) rfl ?_); refine goesL_ (some 38) rfl rfl Try.func54 (by kernel_rfl) rfl #[.string a0, .int .i64 t132, .int .i64 2] rfl (by (try simp only [List.map_toArray, List.map_cons, List.map_nil]); first | done | rfl | (simp only [List.length_drop, List.length_take]; rfl)) ?_; (with_reducible refine (wimpleref1_Num.calls k a0 t132 2 t134 t135 t136 _ A6.out).mono ?_); rintro e w' ⟨rfl, ⟨nd, rfl⟩⟩; refine ⟨_, rfl, ?_⟩; (try clear hcz14_0 hcz14_1 hcz14_2 hfz14_0 hfz14_1 hfz14_2); (try clear hcz16_0 hcz16_1 hcz16_2 hfz16_0 hfz16_1 hfz16_2); (try clear hcz17_0 hcz17_1 hcz17_2 hcz17_3 hcz17_4 hfz17_0 hfz17_1 hfz17_2 hfz17_3 hfz17_4); (try clear hcz22_0 hcz22_1 hcz22_2 hfz22_0 hfz22_1 hfz22_2); (try clear hcz23_0 hcz23_1 hcz23_2 hcz23_3 hcz23_4 hfz23_0 hfz23_1 hfz23_2 hfz23_3 hfz23_4); have hcz29_0 : w26.cell? ⟨gb124, 0, none⟩ = some (.string (⟨#[]⟩ : ByteArray)) := (blk_cell BK124.out 0).trans rfl; have hcz29_1 : w26.cell? ⟨gb124, 1, none⟩ = some (.int .i64 0) := (blk_cell BK124.out 1).trans rfl; have hcz29_2 : w26.cell? ⟨gb124, 2, none⟩ = some (.int .i64 0) := (blk_cell BK124.out 2).trans rfl; have hcz29_3 : w26.cell? ⟨gb124, 3, none⟩ = some (.int .i64 0) := (blk_cell BK124.out 3).trans rfl; have hcz29_4 : w26.cell? ⟨gb124, 4, none⟩ = some (.string (⟨#[]⟩ : ByteArray)) := (blk_cell BK124.out 4).trans rfl; have hfz29_0 := blk_frozen BK124.out 0; have hfz29_1 := blk_frozen BK124.out 1; have hfz29_2 := blk_frozen BK124.out 2; have hfz29_3 := blk_frozen BK124.out 3; have hfz29_4 := blk_frozen BK124.out 4))
      refine bodyPost_ret (results_ctt rfl _ _ gb124 53 #[.string (⟨#[]⟩ : ByteArray), .int .i64 0, .int .i64 0, .int .i64 0, .string (⟨#[]⟩ : ByteArray)] (0, 0) _ rfl (by (with_reducible repeat (first | refine blk_drewN ?_ _ | refine blk_drew ?_ | refine blk_alloc ?_ _)); refine blk_put (cs := #[.string (⟨#[]⟩ : ByteArray), .int .i64 0, .int .i64 0, .int .i64 0, .string (⟨#[]⟩ : ByteArray)]) ?_ 4 _ rfl; (with_reducible repeat (first | refine blk_drewN ?_ _ | refine blk_drew ?_ | refine blk_alloc ?_ _)); refine blk_put (cs := #[.string (⟨#[]⟩ : ByteArray), .int .i64 0, .int .i64 0, .int .i64 0, .string (⟨#[]⟩ : ByteArray)]) ?_ 3 _ rfl; (with_reducible repeat (first | refine blk_drewN ?_ _ | refine blk_drew ?_ | refine blk_alloc ?_ _)); refine blk_put (cs := #[.string (⟨#[]⟩ : ByteArray), .int .i64 0, .int .i64 0, .int .i64 0, .string (⟨#[]⟩ : ByteArray)]) ?_ 2 _ rfl; (with_reducible repeat (first | refine blk_drewN ?_ _ | refine blk_drew ?_ | refine blk_alloc ?_ _)); refine blk_put (cs := #[.string (⟨#[]⟩ : ByteArray), .int .i64 0, .int .i64 0, .int .i64 0, .string (⟨#[]⟩ : ByteArray)]) ?_ 1 _ rfl; (with_reducible repeat (first | refine blk_drewN ?_ _ | refine blk_drew ?_ | refine blk_alloc ?_ _)); refine blk_put (cs := #[.string (⟨#[]⟩ : ByteArray), .int .i64 0, .int .i64 0, .int .i64 0, .string (⟨#[]⟩ : ByteArray)]) ?_ 0 _ rfl; (with_reducible repeat (first | refine blk_drewN ?_ _ | refine blk_drew ?_ | refine blk_alloc ?_ _)); refine blk_far ?_ NB124_130.out _; (with_reducible repeat (first | refine blk_drewN ?_ _ | refine blk_drew ?_ | refine blk_alloc ?_ _)); refine blk_far ?_ NB124_130.out _; (with_reducible repeat (first | refine blk_drewN ?_ _ | refine blk_drew ?_ | refine blk_alloc ?_ _)); refine blk_far ?_ NB124_130.out _; (with_reducible repeat (first | refine blk_drewN ?_ _ | refine blk_drew ?_ | refine blk_alloc ?_ _)); exact BK124.out) Try.underlying53 rfl (by kernel_rfl)) rfl ?_
      exact ⟨by first | rfl | (simp [errW_none, errW_some] <;> rfl) | (simp [*, errW_none, errW_some] <;> rfl), by repeat (first | (with_reducible first | exact HB.out | apply below_alloc | apply pw_below_drewN | apply below_drew1 | refine below_set ?_ GE124.out | refine below_set ?_ GE130.out) | exact HB.out)⟩
  · replace c4 := Bool.eq_false_iff.mpr c4
    subst c4
    have H1 : (some ((⟨#[]⟩ : ByteArray), 0, 0, 0, (⟨#[]⟩ : ByteArray), 0, false)) = some (r1, r2, r3, r4, r5, r6, r7) := by rw [if_neg (show ¬ (false = true) by decide)] at H; exact H
    clear H
    have H := H1
    clear H1
    simp only [Option.some.injEq, Prod.mk.injEq] at H
    obtain ⟨rfl, rfl, rfl, rfl, rfl, rfl, rfl⟩ := H
    go_enter Try.func50, Try.ntmps50
    go_wp2_with (first | ((with_reducible refine gate_dst (N := 4) rfl ?_); refine box_event ?hg (N := 4) ?hd (cs := #[.string (⟨#[]⟩ : ByteArray), .int .i64 0, .int .i64 0, .int .i64 0, .string (⟨#[]⟩ : ByteArray)]) (t := 53) ?hr ?_; (case hd => rfl); (case hg => rfl); (case hr => first | (go_simp; done) | (go_simp; rfl)); intro gb124 hg w30 hbox hb; have n0_ := Aside0.mk (below_step (by repeat (first | (with_reducible first | exact HB.out | apply below_alloc | apply pw_below_drewN | apply below_drew1) | exact HB.out)) hb); have n1_ := Aside0.mk (hbox); have n2_ := Aside0.mk ((by rw [hg]; exact (below_size (by repeat (first | (with_reducible first | exact HB.out | apply below_alloc | apply pw_below_drewN | apply below_drew1) | exact HB.out))) : w.heap.size ≤ gb124)); have n3_ := Aside0.mk ((by rw [hg]; exact (below_size (by repeat (first | (with_reducible first | exact HB.out | apply below_alloc | apply pw_below_drewN | apply below_drew1) | exact HB.out))) : w.heap.size ≤ gb124)); clear HB; have HB := n0_; have BK124 := n1_; have GW124 := n2_; have GE124 := n3_; clear n0_ n1_ n2_ n3_; clear hb hbox hg) | ((with_reducible refine gate_dst (N := 21) rfl ?_); (with_reducible refine gate_callee (f := 49) rfl ?_); refine goesL_ (some 21) rfl rfl Try.func49 (by kernel_rfl) rfl #[.string a0, .int .i64 a1] rfl (by (try simp only [List.map_toArray, List.map_cons, List.map_nil]); first | done | rfl | (simp only [List.length_drop, List.length_take]; rfl)) ?_; (with_reducible refine (wimpleref4_question.calls k a0 a1 t125 t126 t127 t128 false _ A3.out).mono ?_); rintro e w31 ⟨rfl, hb⟩; refine ⟨_, rfl, ?_⟩; have n0_ := Aside0.mk (blk_below (g := gb124) (o := .cells #[.string (⟨#[]⟩ : ByteArray), .int .i64 0, .int .i64 0, .int .i64 0, .string (⟨#[]⟩ : ByteArray)] 53 (0, 0)) (by (with_reducible repeat (first | refine blk_drewN ?_ _ | refine blk_drew ?_ | refine blk_alloc ?_ _)); exact BK124.out) hb); have n1_ := Aside0.mk (below_step (by repeat (first | (with_reducible first | exact HB.out | apply below_alloc | apply pw_below_drewN | apply below_drew1 | refine below_set ?_ GE124.out) | exact HB.out)) hb); clear BK124; clear HB; have BK124 := n0_; have HB := n1_; clear n0_ n1_; (try clear hb); (try clear hb2); (try clear hk); (try clear hi)) | ((with_reducible refine gate_dst (N := 7) rfl ?_); refine box_event ?hg (N := 7) ?hd (cs := #[.string (⟨#[]⟩ : ByteArray), .int .i64 0, .int .i64 0]) (t := 40) ?hr ?_; (case hd => rfl); (case hg => rfl); (case hr => first | (go_simp; done) | (go_simp; rfl)); intro gb130 hg w32 hbox hb; have n0_ := Aside0.mk (blk_below (g := gb124) (o := .cells #[.string (⟨#[]⟩ : ByteArray), .int .i64 0, .int .i64 0, .int .i64 0, .string (⟨#[]⟩ : ByteArray)] 53 (0, 0)) (by (with_reducible repeat (first | refine blk_drewN ?_ _ | refine blk_drew ?_ | refine blk_alloc ?_ _)); exact BK124.out) hb); have n1_ := Aside0.mk (below_step (by repeat (first | (with_reducible first | exact HB.out | apply below_alloc | apply pw_below_drewN | apply below_drew1 | refine below_set ?_ GE124.out) | exact HB.out)) hb); have n2_ := Aside0.mk (hbox); have n3_ := Aside0.mk ((by rw [hg]; exact (below_size (by repeat (first | (with_reducible first | exact HB.out | apply below_alloc | apply pw_below_drewN | apply below_drew1 | refine below_set ?_ GE124.out) | exact HB.out))) : w.heap.size ≤ gb130)); have n4_ := Aside0.mk ((by rw [hg]; exact (below_size (by repeat (first | (with_reducible first | exact HB.out | apply below_alloc | apply pw_below_drewN | apply below_drew1 | refine below_set ?_ GE124.out) | exact HB.out))) : w.heap.size ≤ gb130)); have n5_ := Aside0.mk ((by rw [hg]; exact Nat.ne_of_lt (blk_lt (g := gb124) (o := .cells #[.string (⟨#[]⟩ : ByteArray), .int .i64 0, .int .i64 0, .int .i64 0, .string (⟨#[]⟩ : ByteArray)] 53 (0, 0)) (by (with_reducible repeat (first | refine blk_drewN ?_ _ | refine blk_drew ?_ | refine blk_alloc ?_ _)); exact BK124.out)) : gb124 ≠ gb130)); have n6_ := Aside0.mk ((by rw [hg]; exact Nat.ne_of_gt (blk_lt (g := gb124) (o := .cells #[.string (⟨#[]⟩ : ByteArray), .int .i64 0, .int .i64 0, .int .i64 0, .string (⟨#[]⟩ : ByteArray)] 53 (0, 0)) (by (with_reducible repeat (first | refine blk_drewN ?_ _ | refine blk_drew ?_ | refine blk_alloc ?_ _)); exact BK124.out)) : gb130 ≠ gb124)); clear BK124; clear HB; have BK124 := n0_; have HB := n1_; have BK130 := n2_; have GW130 := n3_; have GE130 := n4_; have NB124_130 := n5_; have NB130_124 := n6_; clear n0_ n1_ n2_ n3_ n4_ n5_ n6_; clear hb hbox hg; have hnb33 := NB130_124.out; have hnc33 := NB124_130.out; (try clear hcz16_0 hcz16_1 hcz16_2 hfz16_0 hfz16_1 hfz16_2); (try clear hcz17_0 hcz17_1 hcz17_2 hcz17_3 hcz17_4 hfz17_0 hfz17_1 hfz17_2 hfz17_3 hfz17_4); (try clear hcz22_0 hcz22_1 hcz22_2 hfz22_0 hfz22_1 hfz22_2); (try clear hcz23_0 hcz23_1 hcz23_2 hcz23_3 hcz23_4 hfz23_0 hfz23_1 hfz23_2 hfz23_3 hfz23_4); (try clear hcz28_0 hcz28_1 hcz28_2 hfz28_0 hfz28_1 hfz28_2); (try clear hcz29_0 hcz29_1 hcz29_2 hcz29_3 hcz29_4 hfz29_0 hfz29_1 hfz29_2 hfz29_3 hfz29_4); have hcz34_0 : w32.cell? ⟨gb130, 0, none⟩ = some (.string (⟨#[]⟩ : ByteArray)) := (blk_cell BK130.out 0).trans rfl; have hcz34_1 : w32.cell? ⟨gb130, 1, none⟩ = some (.int .i64 0) := (blk_cell BK130.out 1).trans rfl; have hcz34_2 : w32.cell? ⟨gb130, 2, none⟩ = some (.int .i64 0) := (blk_cell BK130.out 2).trans rfl; have hfz34_0 := blk_frozen BK130.out 0; have hfz34_1 := blk_frozen BK130.out 1; have hfz34_2 := blk_frozen BK130.out 2; (try clear hcz17_0 hcz17_1 hcz17_2 hcz17_3 hcz17_4 hfz17_0 hfz17_1 hfz17_2 hfz17_3 hfz17_4); (try clear hcz22_0 hcz22_1 hcz22_2 hfz22_0 hfz22_1 hfz22_2); (try clear hcz23_0 hcz23_1 hcz23_2 hcz23_3 hcz23_4 hfz23_0 hfz23_1 hfz23_2 hfz23_3 hfz23_4); (try clear hcz28_0 hcz28_1 hcz28_2 hfz28_0 hfz28_1 hfz28_2); (try clear hcz29_0 hcz29_1 hcz29_2 hcz29_3 hcz29_4 hfz29_0 hfz29_1 hfz29_2 hfz29_3 hfz29_4); have hcz35_0 : w32.cell? ⟨gb124, 0, none⟩ = some (.string (⟨#[]⟩ : ByteArray)) := (blk_cell BK124.out 0).trans rfl; have hcz35_1 : w32.cell? ⟨gb124, 1, none⟩ = some (.int .i64 0) := (blk_cell BK124.out 1).trans rfl; have hcz35_2 : w32.cell? ⟨gb124, 2, none⟩ = some (.int .i64 0) := (blk_cell BK124.out 2).trans rfl; have hcz35_3 : w32.cell? ⟨gb124, 3, none⟩ = some (.int .i64 0) := (blk_cell BK124.out 3).trans rfl; have hcz35_4 : w32.cell? ⟨gb124, 4, none⟩ = some (.string (⟨#[]⟩ : ByteArray)) := (blk_cell BK124.out 4).trans rfl; have hfz35_0 := blk_frozen BK124.out 0; have hfz35_1 := blk_frozen BK124.out 1; have hfz35_2 := blk_frozen BK124.out 2; have hfz35_3 := blk_frozen BK124.out 3; have hfz35_4 := blk_frozen BK124.out 4))
    refine bodyPost_ret (results_ctt rfl _ _ gb124 53 #[.string (⟨#[]⟩ : ByteArray), .int .i64 0, .int .i64 0, .int .i64 0, .string (⟨#[]⟩ : ByteArray)] (0, 0) _ rfl (by (with_reducible repeat (first | refine blk_drewN ?_ _ | refine blk_drew ?_ | refine blk_alloc ?_ _)); refine blk_put (cs := #[.string (⟨#[]⟩ : ByteArray), .int .i64 0, .int .i64 0, .int .i64 0, .string (⟨#[]⟩ : ByteArray)]) ?_ 4 _ rfl; (with_reducible repeat (first | refine blk_drewN ?_ _ | refine blk_drew ?_ | refine blk_alloc ?_ _)); refine blk_put (cs := #[.string (⟨#[]⟩ : ByteArray), .int .i64 0, .int .i64 0, .int .i64 0, .string (⟨#[]⟩ : ByteArray)]) ?_ 3 _ rfl; (with_reducible repeat (first | refine blk_drewN ?_ _ | refine blk_drew ?_ | refine blk_alloc ?_ _)); refine blk_put (cs := #[.string (⟨#[]⟩ : ByteArray), .int .i64 0, .int .i64 0, .int .i64 0, .string (⟨#[]⟩ : ByteArray)]) ?_ 2 _ rfl; (with_reducible repeat (first | refine blk_drewN ?_ _ | refine blk_drew ?_ | refine blk_alloc ?_ _)); refine blk_put (cs := #[.string (⟨#[]⟩ : ByteArray), .int .i64 0, .int .i64 0, .int .i64 0, .string (⟨#[]⟩ : ByteArray)]) ?_ 1 _ rfl; (with_reducible repeat (first | refine blk_drewN ?_ _ | refine blk_drew ?_ | refine blk_alloc ?_ _)); refine blk_put (cs := #[.string (⟨#[]⟩ : ByteArray), .int .i64 0, .int .i64 0, .int .i64 0, .string (⟨#[]⟩ : ByteArray)]) ?_ 0 _ rfl; (with_reducible repeat (first | refine blk_drewN ?_ _ | refine blk_drew ?_ | refine blk_alloc ?_ _)); refine blk_far ?_ NB124_130.out _; (with_reducible repeat (first | refine blk_drewN ?_ _ | refine blk_drew ?_ | refine blk_alloc ?_ _)); refine blk_far ?_ NB124_130.out _; (with_reducible repeat (first | refine blk_drewN ?_ _ | refine blk_drew ?_ | refine blk_alloc ?_ _)); refine blk_far ?_ NB124_130.out _; (with_reducible repeat (first | refine blk_drewN ?_ _ | refine blk_drew ?_ | refine blk_alloc ?_ _)); exact BK124.out) Try.underlying53 rfl (by kernel_rfl)) rfl ?_
    exact ⟨by first | rfl | (simp [errW_none, errW_some] <;> rfl) | (simp [*, errW_none, errW_some] <;> rfl), by repeat (first | (with_reducible first | exact HB.out | apply below_alloc | apply pw_below_drewN | apply below_drew1 | refine below_set ?_ GE124.out | refine below_set ?_ GE130.out) | exact HB.out)⟩

-- NOT PRINTED: function 48 (wimpleref4_GetHead)

-- NOT PRINTED: function 25 (wimpleref4_GetMsg)

end Go.Proofs.Ytjklgdpffmaamaa.PRf

namespace Go.Proofs.Ytjklgdpffmaamaa.Wm
open Go.RowKit Go.PlainAid Go.Proofs.Ytjklgdpffmaamaa.Base Go.Proofs.Ytjklgdpffmaamaa.Oct Go.Proofs.Ytjklgdpffmaamaa.Nm Go.Proofs.Ytjklgdpffmaamaa.Wr Go.Proofs.Ytjklgdpffmaamaa.CompS Go.Proofs.Ytjklgdpffmaamaa.Pu
open Go.Proofs.Ytjklgdpffmaamaa.PCm (comp_Name.f comp_Name.l0 comp_Data.f comp_names.f comp_names.l0 comp_shape.f)
open Go.Proofs.Ytjklgdpffmaamaa.PRf (wimpleref1_Num.f wimpleref4_Name.f wimpleref4_Data.f wimpleref4_Data.j0 wimpleref4_Data.j1 wimpleref4_Data.j2 wimpleref4_Data.l0 wimpleref4_DataMay.f)
open Go.Proofs.YtjklgdpffmaamaaW.PrintWords (Ev bytesOf bytesOf_length LeO)
set_option linter.unusedVariables false
/-! ### Where an SOA's names end -/
theorem bt_mid (P h R : ByteArray) (i : Nat) (hi : i < h.size) : bt (P ++ h ++ R) (P.size + i) = bt h i := by
  rw [bt_append_left _ _ _ (by rw [ByteArray.size_append]; omega), bt_append_right _ _ _ (by omega)]
  congr 1; omega
theorem extract_mid (P h R : ByteArray) : (P ++ h ++ R).extract P.size (P.size + h.size) = h := by
  apply Pu.ext_data
  rw [ByteArray.data_extract, Array.toList_extract, List.extract_eq_take_drop, ByteArray.data_append, ByteArray.data_append, Array.toList_append, Array.toList_append]
  have h1 : P.data.toList.length = P.size := Pu.data_length P
  have h2 : h.data.toList.length = h.size := Pu.data_length h
  rw [List.append_assoc, ← h1, List.drop_left, show P.data.toList.length + h.size - P.data.toList.length = h.data.toList.length by omega, List.take_left]
theorem zero_mid (P h R : ByteArray) : ∀ (d i : Nat), h.size - i ≤ d → nameAt h i = true → zeroAt (P ++ h ++ R) (P.size + i) = some (P.size + h.size - 1)
  | 0, i, hd, hn => by rw [nameAt_out (by omega)] at hn; cases hn
  | d + 1, i, hd, hn => by
    by_cases hi : i < h.size
    · have hb := bt_mid P h R i hi
      have hs : P.size + i < (P ++ h ++ R).size := by rw [ByteArray.size_append, ByteArray.size_append]; omega
      by_cases h0 : bt h i = 0
      · rw [nameAt_end hi h0] at hn
        simp only [decide_eq_true_eq] at hn
        rw [zeroAt_end hs (by rw [hb]; exact h0)]
        congr 1; omega
      · by_cases h1 : bt h i ≤ 63
        · rw [nameAt_next hi h0 h1] at hn
          rw [zeroAt_next hs (by rw [hb]; exact h0), hb, show P.size + i + 1 + (bt h i).toNat = P.size + (i + 1 + (bt h i).toNat) by omega]
          exact zero_mid P h R d _ (by omega) hn
        · rw [nameAt_bad hi (by omega)] at hn; cases hn
    · rw [nameAt_out (by omega)] at hn; cases hn
theorem name_pos {h : ByteArray} (hn : nameB h = true) : 0 < h.size := by have := (name_first hn).1; omega
theorem end_mid (P h R : ByteArray) (hn : nameB h = true) : endN (P ++ h ++ R) P.size = ((P.size + h.size : Nat) : Int) := by
  have h1 : nameAt h 0 = true := by unfold nameB at hn; simp only [Bool.and_eq_true] at hn; exact hn.2
  have hz := zero_mid P h R h.size 0 (by omega) h1
  have hp := name_pos hn
  unfold endN
  rw [Nat.add_zero] at hz
  rw [hz]
  simp only
  rw [show P.size + h.size - 1 + 1 = P.size + h.size by omega, extract_mid, hn, if_pos rfl]
  omega
theorem nil_app (h : ByteArray) : (⟨#[]⟩ : ByteArray) ++ h = h := ByteArray.empty_append
theorem soa_rest {a b R : ByteArray} (ha : nameB a = true) (hb : nameB b = true) (h : Rd.mayD 6 (a ++ b ++ R) = true) : R.size = 20 := by
  have z : (a ++ b ++ R).size = a.size + b.size + R.size := by simp only [ByteArray.size_append]
  have e1 := end_mid (⟨#[]⟩ : ByteArray) a (b ++ R) ha
  rw [nil_app, ← ByteArray.append_assoc, show (⟨#[]⟩ : ByteArray).size = 0 from rfl, Nat.zero_add] at e1
  have e2 := end_mid a b R hb
  unfold Rd.mayD at h
  rw [if_neg (by decide), if_neg (by decide)] at h
  by_cases c3 : 65535 < (a ++ b ++ R).size
  · rw [if_pos c3] at h; cases h
  rw [if_neg c3] at h
  have h : Rd.soaB (a ++ b ++ R) = true := h
  unfold Rd.soaB at h
  rw [e1, Int.toNat_natCast, e2] at h
  simp only [Bool.and_eq_true, decide_eq_true_eq] at h
  have := h.2.2
  rw [z] at this
  omega
/-! ### Names, that are none -/
theorem names_1err {s : ByteArray} {i : Int} (h : Ev (fun k => comp_Name.f k s i) err) : Ev (fun k => comp_names.f k s i 1) err := by
  show Ev (fun k => comp_names.l0 k s i (⟨#[]⟩ : ByteArray) 1 0) _
  exact Ev.step (fun k => by rw [comp_names.l0]) (Ev.pos (by decide) (Ev.bind h (Ev.neg (by show ¬ ((500 : Int) = 0); decide) (Ev.now _))))
theorem names_2err {s : ByteArray} {i : Int} (h : Ev (fun k => comp_Name.f k s i) err) : Ev (fun k => comp_names.f k s i 2) err := by
  show Ev (fun k => comp_names.l0 k s i (⟨#[]⟩ : ByteArray) 2 0) _
  exact Ev.step (fun k => by rw [comp_names.l0]) (Ev.pos (by decide) (Ev.bind h (Ev.neg (by show ¬ ((500 : Int) = 0); decide) (Ev.now _))))
theorem names_2err2 {s nm : ByteArray} {i p : Int} (h : Ev (fun k => comp_Name.f k s i) (nm, p, 0)) (hz : nm.size ≤ 255) (k : Ev (fun k => comp_Name.f k s p) err) : Ev (fun k => comp_names.f k s i 2) err := by
  show Ev (fun k => comp_names.l0 k s i (⟨#[]⟩ : ByteArray) 2 0) _
  refine Ev.step (fun k => by rw [comp_names.l0]) (Ev.pos (by decide) (Ev.bind h ?_))
  refine Ev.pos rfl (Ev.pos (by show 0 + nm.size ≤ 9223372036854775807; omega) ?_)
  exact Ev.step (fun k => by rw [comp_names.l0]) (Ev.pos (by rw [Pu.w64 (by decide) (by decide)]; decide) (Ev.bind k (Ev.neg (by show ¬ ((500 : Int) = 0); decide) (Ev.now _))))
/-! ### The document's data -/
section
variable {S out : ByteArray} {i z fr : Nat} {t many c : Int} {r : ByteArray × Int}
theorem rd_out (hS : S.size ≤ 1000000) (h : S.size < i + z) : Ev (fun k => wimpleref4_Data.f k S (i : Int) (z : Int) t) no := by
  refine Ev.neg (by omega) (Ev.neg (by omega) ?_)
  by_cases h1 : (i : Int) > (S.size : Int)
  · exact Ev.pos h1 (Ev.step (fun k => by rw [wimpleref4_Data.j0]) (Ev.pos rfl (Ev.now _)))
  · refine Ev.neg h1 ?_
    rw [Pu.w64 (x := (S.size : Int) - (i : Int)) (by omega) (by omega), decide_eq_true (by omega)]
    exact Ev.step (fun k => by rw [wimpleref4_Data.j0]) (Ev.pos rfl (Ev.now _))
theorem rd_in (hS : S.size ≤ 1000000) (h : i + z ≤ S.size) (k : Ev (fun k => wimpleref4_Data.j0 k S (i : Int) (z : Int) t false) r) : Ev (fun k => wimpleref4_Data.f k S (i : Int) (z : Int) t) r := by
  refine Ev.neg (by omega) (Ev.neg (by omega) (Ev.neg (by omega) ?_))
  rw [Pu.w64 (x := (S.size : Int) - (i : Int)) (by omega) (by omega), decide_eq_false (by omega)]
  exact k
theorem rd_end (hS : S.size ≤ 1000000) (h : many ≤ c) (h1 : fr ≤ i + z) (h2 : i + z ≤ S.size) (ho : out.size ≤ 600) :
    Ev (fun k => wimpleref4_Data.l0 k S (i : Int) (z : Int) t out (fr : Int) many c) (if Rd.mayD t (out ++ S.extract fr (i + z)) = true ∧ (many ≤ 0 ∨ t = 6 ∨ fr = i + z) then (out ++ S.extract fr (i + z), 0) else no) := by
  have zx : (S.extract fr (i + z)).size = i + z - fr := by rw [ByteArray.size_extract]; omega
  have zd : (out ++ S.extract fr (i + z)).size = out.size + (i + z - fr) := by rw [ByteArray.size_append, zx]
  have hd : wimpleref4_DataMay.f t (out ++ S.extract fr (i + z)) = some (Rd.mayD t (out ++ S.extract fr (i + z))) := by unfold wimpleref4_DataMay.f; rw [if_pos (by omega)]
  refine Ev.step (fun k => by rw [wimpleref4_Data.l0]) (Ev.neg (by omega) (Ev.pos (by omega) ?_))
  rw [Pu.w64 (x := (i : Int) + (z : Int)) (by omega) (by omega), show (i : Int) + (z : Int) = ((i + z : Nat) : Int) by omega]
  simp only [Int.toNat_natCast]
  refine Ev.pos (by omega) (Ev.pos (by omega) (Ev.pos (by omega) (Ev.call hd ?_)))
  generalize hR : (if Rd.mayD t (out ++ S.extract fr (i + z)) = true ∧ (many ≤ 0 ∨ t = 6 ∨ fr = i + z) then (out ++ S.extract fr (i + z), 0) else no) = R
  by_cases hm : Rd.mayD t (out ++ S.extract fr (i + z)) = true
  · refine Ev.pos hm ?_
    by_cases hn : many ≤ 0
    · rw [if_pos ⟨hm, .inl hn⟩] at hR
      exact Ev.neg (by omega) (by rw [← hR]; exact Ev.now _)
    · refine Ev.pos (by omega) ?_
      by_cases h6 : t = 6
      · rw [if_pos ⟨hm, .inr (.inl h6)⟩] at hR
        exact Ev.pos h6 (by rw [← hR]; exact Ev.now _)
      · refine Ev.neg h6 ?_
        by_cases hf : fr = i + z
        · rw [if_pos ⟨hm, .inr (.inr hf)⟩] at hR
          exact Ev.pos (by omega) (by rw [← hR]; exact Ev.now _)
        · rw [if_neg (fun h => h.2.elim hn (fun h => h.elim h6 hf))] at hR
          exact Ev.neg (by omega) (by rw [← hR]; exact Ev.now _)
  · rw [if_neg (fun h => hm h.1)] at hR
    exact Ev.neg hm (by rw [← hR]; exact Ev.now _)
theorem rd_err (h : c < many) (k : Ev (fun k => wimpleref4_Name.f k S (fr : Int)) err) : Ev (fun k => wimpleref4_Data.l0 k S (i : Int) (z : Int) t out (fr : Int) many c) no :=
  Ev.step (fun k => by rw [wimpleref4_Data.l0]) (Ev.pos h (Ev.bind k (Ev.neg (by show ¬ ((500 : Int) = 0); decide) (Ev.now _))))
theorem rd_far {nm : ByteArray} {nx : Nat} (hS : S.size ≤ 1000000) (h2 : i + z ≤ S.size) (h : c < many) (k : Ev (fun k => wimpleref4_Name.f k S (fr : Int)) (nm, (nx : Int), 0)) (hf : i + z < nx) : Ev (fun k => wimpleref4_Data.l0 k S (i : Int) (z : Int) t out (fr : Int) many c) no := by
  refine Ev.step (fun k => by rw [wimpleref4_Data.l0]) (Ev.pos h (Ev.bind k (Ev.pos rfl ?_)))
  dsimp only
  rw [Pu.w64 (x := (i : Int) + (z : Int)) (by omega) (by omega)]
  exact Ev.pos (by omega) (Ev.now _)
theorem rd_next {nm : ByteArray} {nx : Nat} (hS : S.size ≤ 1000000) (h2 : i + z ≤ S.size) (h : c < many) (hc : 0 ≤ c) (hc2 : c ≤ 10) (k : Ev (fun k => wimpleref4_Name.f k S (fr : Int)) (nm, (nx : Int), 0)) (hf : nx ≤ i + z) (ho : out.size ≤ 600) (hn : nm.size ≤ 600)
    (q : Ev (fun k => wimpleref4_Data.l0 k S (i : Int) (z : Int) t (out ++ nm) (nx : Int) many (c + 1)) r) : Ev (fun k => wimpleref4_Data.l0 k S (i : Int) (z : Int) t out (fr : Int) many c) r := by
  refine Ev.step (fun k => by rw [wimpleref4_Data.l0]) (Ev.pos h (Ev.bind k (Ev.pos rfl ?_)))
  dsimp only
  rw [Pu.w64 (x := (i : Int) + (z : Int)) (by omega) (by omega), Pu.w64 (x := c + 1) (by omega) (by omega)]
  exact Ev.neg (by omega) (Ev.pos (by omega) q)
end
/-- Data of one name, behind so many bytes. -/
theorem one_both {S : ByteArray} (hS : S.size ≤ 1000000) {i z a : Nat} {t : Int} (h2 : i + z ≤ S.size) (ha : a ≤ 100) (haz : a ≤ z) (h6 : t ≠ 6) (hsh : Ev (fun k => comp_shape.f k t) ((a : Int), 1, 0))
    (hr : ∀ r, Ev (fun k => wimpleref4_Data.l0 k S (i : Int) (z : Int) t (S.extract i (i + a)) ((i + a : Nat) : Int) 1 0) r → Ev (fun k => wimpleref4_Data.f k S (i : Int) (z : Int) t) r) :
    ∃ d e, Ev (fun k => comp_Data.f k S (i : Int) (z : Int) t) (d, e) ∧ Ev (fun k => wimpleref4_Data.f k S (i : Int) (z : Int) t) (d, e) := by
  have zo : (S.extract i (i + a)).size ≤ 100 := by rw [ByteArray.size_extract]; omega
  rcases name_both hS (i + a) with ⟨k1, k2⟩ | ⟨nm, nx, hn, h3, h4, k1, k2⟩
  · exact ⟨_, _, data_names_no (more := 0) hS (by decide) h2 ha (by decide) hsh (by decide) (names_1err k1) (fun e => absurd e (by decide)), hr _ (rd_err (by decide) k2)⟩
  · have hz := name_size hn
    have hq := names_1 k1 hz
    by_cases hf : i + z < nx
    · exact ⟨_, _, data_names_no (more := 0) hS (by omega) h2 ha (by decide) hsh (by decide) hq (fun _ => ⟨nx, rfl, h4, fun e _ => by omega⟩), hr _ (rd_far hS h2 (by decide) k2 hf)⟩
    · have hl := rd_end (S := S) (out := S.extract i (i + a) ++ nm) (i := i) (z := z) (fr := nx) (t := t) (many := 1) (c := 0 + 1) hS (by decide) (by omega) h2 (by rw [ByteArray.size_append]; omega)
      have hl := hr _ (rd_next hS h2 (by decide) (by decide) (by decide) k2 (by omega) (by omega) (by omega) hl)
      by_cases hc : Rd.mayD t (S.extract i (i + a) ++ nm ++ S.extract nx (i + z)) = true ∧ nx = i + z
      · rw [if_pos ⟨hc.1, .inr (.inr hc.2)⟩] at hl
        exact ⟨_, _, data_names (more := 0) hS (by omega) h2 hsh (by decide) (by omega) hq (by omega) hc.1, hl⟩
      · rw [if_neg (fun h => h.2.elim (fun y => absurd y (by decide)) (fun y => y.elim h6 (fun y => hc ⟨h.1, y⟩)))] at hl
        refine ⟨_, _, data_names_no (more := 0) hS (by omega) h2 ha (by decide) hsh (by decide) hq (fun _ => ⟨nx, rfl, h4, fun e _ => ?_⟩), hl⟩
        cases hm : Rd.mayD t (S.extract i (i + a) ++ nm ++ S.extract nx (i + z)) with
        | false => rfl
        | true => exact absurd ⟨hm, by omega⟩ hc
theorem ext_same (s : ByteArray) (i : Nat) : s.extract i (i + 0) = (⟨#[]⟩ : ByteArray) := by
  apply ext_of
  rw [ext_list, Nat.add_zero, List.drop_eq_nil_of_le (by rw [List.length_take]; omega)]
/-- Data: the document and comp.Data say the same. -/
theorem data_both {S : ByteArray} (hS : S.size ≤ 1000000) (i z : Nat) (t : Int) :
    ∃ d e, Ev (fun k => comp_Data.f k S (i : Int) (z : Int) t) (d, e) ∧ Ev (fun k => wimpleref4_Data.f k S (i : Int) (z : Int) t) (d, e) := by
  by_cases h2 : i + z ≤ S.size
  · by_cases k1 : t = 2 ∨ t = 5 ∨ t = 12
    · refine one_both (a := 0) hS h2 (by decide) (by omega) (by omega) (shape_1 k1) (fun r hr => rd_in hS h2 ?_)
      rw [ext_same, Nat.add_zero] at hr
      have q : Ev (fun k => wimpleref4_Data.j1 k S (i : Int) (z : Int) t (⟨#[]⟩ : ByteArray) (i : Int) 0 t true) r :=
        Ev.step (fun k => by rw [wimpleref4_Data.j1]) (Ev.pos rfl (Ev.step (fun k => by rw [wimpleref4_Data.j2]) hr))
      refine Ev.step (fun k => by rw [wimpleref4_Data.j0]) (Ev.neg (by decide) ?_)
      rcases k1 with rfl | rfl | rfl
      · exact Ev.pos rfl q
      · exact Ev.neg (by decide) (Ev.pos rfl q)
      · exact Ev.neg (by decide) (Ev.neg (by decide) q)
    · have j0 : ∀ r, Ev (fun k => wimpleref4_Data.j1 k S (i : Int) (z : Int) t (⟨#[]⟩ : ByteArray) (i : Int) 0 t false) r → Ev (fun k => wimpleref4_Data.f k S (i : Int) (z : Int) t) r := by
        intro r hr
        refine rd_in hS h2 (Ev.step (fun k => by rw [wimpleref4_Data.j0]) (Ev.neg (by decide) (Ev.neg (fun e => k1 (.inl e)) (Ev.neg (fun e => k1 (.inr (.inl e))) ?_))))
        rw [show (t == 12) = false by simp; exact fun e => k1 (.inr (.inr e))]
        exact hr
      by_cases k2 : t = 15
      · subst k2
        by_cases hz : z < 2
        · refine ⟨_, _, ?_, j0 _ (Ev.step (fun k => by rw [wimpleref4_Data.j1]) (Ev.neg (by decide) (Ev.pos rfl (Ev.pos (by omega) (Ev.now _)))))⟩
          refine data_in hS (by omega) (by omega) (by omega) ?_
          refine Ev.step (fun k => by rw [PCm.comp_Data.j0]) (Ev.neg (by decide) ?_)
          rw [Pu.w64 (x := (i : Int) + (z : Int)) (by omega) (by omega)]
          refine Ev.pos (by omega) (Ev.pos (by omega) (Ev.pos (by omega) (Ev.bind shape_15 (Ev.pos (by decide) ?_))))
          dsimp only
          rw [Pu.w64 (x := (2 : Int) + 0) (by decide) (by decide)]
          exact Ev.pos (by omega) (Ev.now _)
        · refine one_both (a := 2) hS h2 (by decide) (by omega) (by decide) shape_15 (fun r hr => j0 _ ?_)
          refine Ev.step (fun k => by rw [wimpleref4_Data.j1]) (Ev.neg (by decide) (Ev.pos rfl (Ev.neg (by omega) (Ev.pos (by omega) ?_))))
          rw [Pu.w64 (x := (i : Int) + 2) (by omega) (by omega), show (i : Int) + 2 = ((i + 2 : Nat) : Int) by omega]
          simp only [Int.toNat_natCast]
          exact Ev.pos (by omega) (Ev.pos (by omega) (Ev.step (fun k => by rw [wimpleref4_Data.j2]) hr))
      · by_cases k3 : t = 6
        · subst k3
          have jj : ∀ r, Ev (fun k => wimpleref4_Data.l0 k S (i : Int) (z : Int) 6 (⟨#[]⟩ : ByteArray) (i : Int) 2 0) r → Ev (fun k => wimpleref4_Data.f k S (i : Int) (z : Int) 6) r := fun r hr =>
            j0 _ (Ev.step (fun k => by rw [wimpleref4_Data.j1]) (Ev.neg (by decide) (Ev.neg (by decide) (Ev.pos rfl (Ev.step (fun k => by rw [wimpleref4_Data.j2]) hr)))))
          have i0 : ((i + 0 : Nat) : Int) = (i : Int) := by omega
          rcases name_both hS i with ⟨a1, a2⟩ | ⟨nm, nx, hn, h3, h4, a1, a2⟩
          · exact ⟨_, _, data_names_no (ns := (⟨#[]⟩ : ByteArray)) (a := 0) (more := 20) hS (by decide) h2 (by decide) (by decide) shape_6 (by decide) (by rw [i0]; exact names_2err a1) (fun e => absurd e (by decide)), jj _ (rd_err (by decide) a2)⟩
          · have hz := name_size hn
            rcases name_both hS nx with ⟨b1, b2⟩ | ⟨nn, ny, hn2, h5, h6, b1, b2⟩
            · refine ⟨_, _, data_names_no (ns := (⟨#[]⟩ : ByteArray)) (a := 0) (more := 20) hS (by decide) h2 (by decide) (by decide) shape_6 (by decide) (by rw [i0]; exact names_2err2 a1 hz b1) (fun e => absurd e (by decide)), jj _ ?_⟩
              by_cases hf : i + z < nx
              · exact rd_far hS h2 (by decide) a2 hf
              · exact rd_next hS h2 (by decide) (by decide) (by decide) a2 (by omega) (by decide) (by omega) (rd_err (by decide) b2)
            · have hz2 := name_size hn2
              have hq : Ev (fun k => comp_names.f k S ((i + 0 : Nat) : Int) 2) (nm ++ nn, (ny : Int), 0) := by rw [i0]; exact names_2 a1 b1 hz hz2
              by_cases hf : i + z < ny
              · refine ⟨_, _, data_names_no (a := 0) (more := 20) hS (by rw [ByteArray.size_append]; omega) h2 (by decide) (by decide) shape_6 (by decide) hq (fun _ => ⟨ny, rfl, h6, fun e _ => by omega⟩), jj _ ?_⟩
                by_cases hf1 : i + z < nx
                · exact rd_far hS h2 (by decide) a2 hf1
                · exact rd_next hS h2 (by decide) (by decide) (by decide) a2 (by omega) (by decide) (by omega) (rd_far hS h2 (by decide) b2 hf)
              · have hl := rd_end (S := S) (out := (⟨#[]⟩ : ByteArray) ++ nm ++ nn) (i := i) (z := z) (fr := ny) (t := 6) (many := 2) (c := 0 + 1 + 1) hS (by decide) (by omega) h2 (by rw [nil_app, ByteArray.size_append]; omega)
                have hl := jj _ (rd_next hS h2 (by decide) (by decide) (by decide) a2 (by omega) (by decide) (by omega) (rd_next hS h2 (by decide) (by decide) (by decide) b2 (by omega) (by rw [nil_app]; omega) (by omega) hl))
                rw [nil_app] at hl
                have ed : S.extract i (i + 0) ++ (nm ++ nn) ++ S.extract ny (i + z) = nm ++ nn ++ S.extract ny (i + z) := by rw [ext_same, nil_app]
                by_cases hc : Rd.mayD 6 (nm ++ nn ++ S.extract ny (i + z)) = true
                · have hR := soa_rest hn hn2 hc
                  rw [ByteArray.size_extract] at hR
                  rw [if_pos ⟨hc, .inr (.inl rfl)⟩] at hl
                  have hg := data_names (a := 0) (more := 20) (q := ny) hS (by rw [ByteArray.size_append]; omega) h2 shape_6 (by decide) (by omega) hq (by omega) (by rw [ed]; exact hc)
                  rw [ed] at hg
                  exact ⟨_, _, hg, hl⟩
                · rw [if_neg (fun h => hc h.1)] at hl
                  refine ⟨_, _, data_names_no (a := 0) (more := 20) hS (by rw [ByteArray.size_append]; omega) h2 (by decide) (by decide) shape_6 (by decide) hq (fun _ => ⟨ny, rfl, h6, fun e _ => ?_⟩), hl⟩
                  rw [ed]
                  cases hm : Rd.mayD 6 (nm ++ nn ++ S.extract ny (i + z)) with
                  | false => rfl
                  | true => exact absurd hm hc
        · have hsh := shape_0 (fun e => k1 (.inl e)) (fun e => k1 (.inr (.inl e))) (fun e => k1 (.inr (.inr e))) k2 k3
          have hl := rd_end (S := S) (out := (⟨#[]⟩ : ByteArray)) (i := i) (z := z) (fr := i) (t := t) (many := 0) (c := 0) hS (by decide) (by omega) h2 (by decide)
          have hl := j0 _ (Ev.step (fun k => by rw [wimpleref4_Data.j1]) (Ev.neg (by decide) (Ev.neg k2 (Ev.neg k3 (Ev.step (fun k => by rw [wimpleref4_Data.j2]) hl)))))
          rw [nil_app] at hl
          by_cases hm : Rd.mayD t (S.extract i (i + z)) = true
          · rw [if_pos ⟨hm, .inl (by decide)⟩] at hl
            exact ⟨_, _, data_plain hS h2 hsh hm, hl⟩
          · rw [if_neg (fun h => hm h.1)] at hl
            exact ⟨_, _, data_plain_no hS h2 hsh (by simpa using hm), hl⟩
  · exact ⟨_, _, data_out hS (by omega) (by omega) (by omega), rd_out hS (by omega)⟩
end Go.Proofs.Ytjklgdpffmaamaa.Wm
