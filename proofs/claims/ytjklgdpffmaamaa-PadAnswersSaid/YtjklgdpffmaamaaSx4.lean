/- Data in bytes: the document reads what comp.Data reads. Plain: no program in sight. -/
import Derived.Deep.RegionHeld3
import Derived.Deep.CutBlock
import Derived.Test.YtjklgdpffmaamaaSx1
import Derived.Test.YtjklgdpffmaamaaSx2
import Derived.Test.YtjklgdpffmaamaaSx3
namespace Go.Proofs.Ytjklgdpffmaamaa.PRf
open Go.RowKit Go.Proofs.YtjklgdpffmaamaaW.PrintWords Go.Proofs.YtjklgdpffmaamaaW.PrintLast Go.Proofs.YtjklgdpffmaamaaW.PrintMore
attribute [local go_sem] max2_int min2_int max_two min_two max_three min_three max_four min_four   -- for this text's walks alone
set_option linter.unusedVariables false
set_option linter.unusedSimpArgs false

/-! ### wimpleref4_Data: function 80 -/
mutual
def wimpleref4_Data.j0 : Nat → ByteArray → Int → Int → Int → Bool → Option (ByteArray × Int)
  | 0, _, _, _, _, _ => none
  | k + 1, x0, x1, x2, x3, x36 => if x36 = true then (some ((⟨#[]⟩ : ByteArray), 500)) else (if x3 = 2 then (wimpleref4_Data.j1 k x0 x1 x2 x3 (⟨#[]⟩ : ByteArray) x1 0 x3 (x3 == 2)) else (if x3 = 5 then (wimpleref4_Data.j1 k x0 x1 x2 x3 (⟨#[]⟩ : ByteArray) x1 0 x3 (x3 == 5)) else (wimpleref4_Data.j1 k x0 x1 x2 x3 (⟨#[]⟩ : ByteArray) x1 0 x3 (x3 == 12))))
def wimpleref4_Data.j2 : Nat → ByteArray → Int → Int → Int → ByteArray → Int → Int → Option (ByteArray × Int)
  | 0, _, _, _, _, _, _, _ => none
  | k + 1, x0, x1, x2, x3, x10, x11, x12 => wimpleref4_Data.l0 k x0 x1 x2 x3 x10 x11 x12 0
def wimpleref4_Data.l0 : Nat → ByteArray → Int → Int → Int → ByteArray → Int → Int → Int → Option (ByteArray × Int)
  | 0, _, _, _, _, _, _, _, _ => none
  | k + 1, x0, x1, x2, x3, x10, x11, x12, x13 => if x13 < x12 then ((wimpleref4_Name.f k x0 x11).bind fun bt110 => (if bt110.2.2 = 0 then (if bt110.2.1 > (wrap64 (x1 + x2)) then (some ((⟨#[]⟩ : ByteArray), 500)) else (if x10.size + bt110.1.size ≤ 9223372036854775807 then (wimpleref4_Data.l0 k x0 x1 x2 x3 (x10 ++ bt110.1) bt110.2.1 x12 (wrap64 (x13 + 1))) else (none))) else (some ((⟨#[]⟩ : ByteArray), 500)))) else (if 0 ≤ x11 then (if x11 ≤ (wrap64 (x1 + x2)) then (if (wrap64 (x1 + x2)) ≤ (x0.size : Int) then (if x10.size + (x0.extract (x11 : Int).toNat ((wrap64 (x1 + x2)) : Int).toNat).size ≤ 9223372036854775807 then ((wimpleref4_DataMay.f x3 (x10 ++ (x0.extract (x11 : Int).toNat ((wrap64 (x1 + x2)) : Int).toNat))).bind fun t113 => (if t113 = true then (if x12 > 0 then (if x3 = 6 then (some (x10 ++ (x0.extract (x11 : Int).toNat ((wrap64 (x1 + x2)) : Int).toNat), 0)) else (if x11 = (wrap64 (x1 + x2)) then (some (x10 ++ (x0.extract (x11 : Int).toNat ((wrap64 (x1 + x2)) : Int).toNat), 0)) else (some ((⟨#[]⟩ : ByteArray), 500)))) else (some (x10 ++ (x0.extract (x11 : Int).toNat ((wrap64 (x1 + x2)) : Int).toNat), 0))) else (some ((⟨#[]⟩ : ByteArray), 500)))) else (none)) else (none)) else (none)) else (none))
def wimpleref4_Data.j1 : Nat → ByteArray → Int → Int → Int → ByteArray → Int → Int → Int → Bool → Option (ByteArray × Int)
  | 0, _, _, _, _, _, _, _, _, _ => none
  | k + 1, x0, x1, x2, x3, x10, x11, x12, x38, x39 => if x39 = true then (wimpleref4_Data.j2 k x0 x1 x2 x3 x10 x11 1) else (if x38 = 15 then (if x2 < 2 then (some ((⟨#[]⟩ : ByteArray), 500)) else (if 0 ≤ x1 then (if x1 ≤ (wrap64 (x1 + 2)) then (if (wrap64 (x1 + 2)) ≤ (x0.size : Int) then (wimpleref4_Data.j2 k x0 x1 x2 x3 (x0.extract (x1 : Int).toNat ((wrap64 (x1 + 2)) : Int).toNat) (wrap64 (x1 + 2)) 1) else (none)) else (none)) else (none))) else (if x38 = 6 then (wimpleref4_Data.j2 k x0 x1 x2 x3 x10 x11 2) else (wimpleref4_Data.j2 k x0 x1 x2 x3 x10 x11 x12)))
end
def wimpleref4_Data.f (k : Nat) (a0 : ByteArray) (a1 : Int) (a2 : Int) (a3 : Int) : Option (ByteArray × Int) := if a1 < 0 then (wimpleref4_Data.j0 k a0 a1 a2 a3 true) else (if a2 < 0 then (wimpleref4_Data.j0 k a0 a1 a2 a3 true) else (if a1 > (a0.size : Int) then (wimpleref4_Data.j0 k a0 a1 a2 a3 true) else (wimpleref4_Data.j0 k a0 a1 a2 a3 (decide (a2 > (wrap64 ((a0.size : Int) - a1)))))))
set_option maxHeartbeats 8000000 in
set_option maxRecDepth 100000 in
theorem wimpleref4_Data.calls (k : Nat) (a0 : ByteArray) (a1 : Int) (a2 : Int) (a3 : Int) (r1 : ByteArray) (r2 : Int) (w : World) (h : wimpleref4_Data.f k a0 a1 a2 a3 = some (r1, r2)) :
    Calls Try.prog 80 #[.string a0, .int .i64 a1, .int .i64 a2, .int .i64 a3] w fun e w' => e = .returned (.tuple #[.string r1, .int .i64 r2]) ∧ Below w.heap.size w w' := by
  have HB := Aside0.mk (Below.refl w.heap.size w)
  have H : (if a1 < 0 then (wimpleref4_Data.j0 k a0 a1 a2 a3 true) else (if a2 < 0 then (wimpleref4_Data.j0 k a0 a1 a2 a3 true) else (if a1 > (a0.size : Int) then (wimpleref4_Data.j0 k a0 a1 a2 a3 true) else (wimpleref4_Data.j0 k a0 a1 a2 a3 (decide (a2 > (wrap64 ((a0.size : Int) - a1)))))))) = some (r1, r2) := h
  clear h
  have HC5 := Aside0.mk H
  clear H
  go_enter Try.func80, Try.ntmps80
  go_upto_region 1 with (fail)
  go_cut [36] (fun v36 wc => ∃ (kq : Nat) (x36_4 : Bool), v36 = .bool x36_4 ∧ Aside0 (wimpleref4_Data.j0 kq a0 a1 a2 a3 x36_4 = some (r1, r2)) ∧ Aside0 (kq ≤ k) ∧ Aside0 (Below w.heap.size w wc))
  case first =>
    have H := HC5.out
    clear HC5
    by_cases c6 : a1 < 0
    · rw [if_pos c6] at H
      have c6b0 : decide (a1 < 0) = true := decide_eq_true c6
      clear c6
      (first | rw [c6b0] | (simp only [i64_w, i32_w]; rw [c6b0]) | skip)
      have H' := Aside0.mk H
      clear H
      go_wp2
      go_meet
      case rel => exact ⟨_, (true), (by first | rfl | (simp; done) | (simp [*]; done)), H', ⟨by first | omega | exact Nat.le_refl _⟩, ⟨by repeat (first | (with_reducible first | exact HB.out | apply below_alloc | apply pw_below_drewN | apply below_drew1) | exact HB.out)⟩⟩
    · rw [if_neg c6] at H
      have c6b0 : decide (a1 < 0) = false := decide_eq_false c6
      clear c6
      (first | rw [c6b0] | (simp only [i64_w, i32_w]; rw [c6b0]) | skip)
      by_cases c7 : a2 < 0
      · rw [if_pos c7] at H
        have c7b0 : decide (a2 < 0) = true := decide_eq_true c7
        clear c7
        have H' := Aside0.mk H
        clear H
        go_wp2
        go_meet
        case rel => exact ⟨_, (true), (by first | rfl | (simp; done) | (simp [*]; done)), H', ⟨by first | omega | exact Nat.le_refl _⟩, ⟨by repeat (first | (with_reducible first | exact HB.out | apply below_alloc | apply pw_below_drewN | apply below_drew1) | exact HB.out)⟩⟩
      · rw [if_neg c7] at H
        have c7b0 : decide (a2 < 0) = false := decide_eq_false c7
        clear c7
        by_cases c8 : a1 > (a0.size : Int)
        · rw [if_pos c8] at H
          have c8b0 : decide ((a0.size : Int) < a1) = true := decide_eq_true c8
          clear c8
          have H' := Aside0.mk H
          clear H
          go_wp2
          go_meet
          case rel => exact ⟨_, (true), (by first | rfl | (simp; done) | (simp [*]; done)), H', ⟨by first | omega | exact Nat.le_refl _⟩, ⟨by repeat (first | (with_reducible first | exact HB.out | apply below_alloc | apply pw_below_drewN | apply below_drew1) | exact HB.out)⟩⟩
        · rw [if_neg c8] at H
          have c8b0 : decide ((a0.size : Int) < a1) = false := decide_eq_false c8
          clear c8
          have H' := Aside0.mk H
          clear H
          go_wp2
          go_meet
          case rel => exact ⟨_, (decide (a2 > (wrap64 ((a0.size : Int) - a1)))), (by first | rfl | (simp; done) | (simp [*]; done)), H', ⟨by first | omega | exact Nat.le_refl _⟩, ⟨by repeat (first | (with_reducible first | exact HB.out | apply below_alloc | apply pw_below_drewN | apply below_drew1) | exact HB.out)⟩⟩
  case rest =>
    clear HC5
    try clear p2
    try clear c6
    try clear c6b0
    try clear p6
    try clear c7
    try clear c7b0
    try clear c8
    try clear c8b0
    obtain ⟨kq, x36_4, rfl, HA, HJ4, HB⟩ := hcut
    cases kq with
    | zero => exact absurd HA.out (by simp [wimpleref4_Data.j0])
    | succ kj4 =>
      have H := HA.out
      clear HA
      simp only [wimpleref4_Data.j0] at H
      by_cases c9 : x36_4 = true
      · subst c9
        have H1 : (some ((⟨#[]⟩ : ByteArray), 500)) = some (r1, r2) := by rw [if_pos rfl] at H; exact H
        clear H
        have H := H1
        clear H1
        simp only [Option.some.injEq, Prod.mk.injEq] at H
        obtain ⟨rfl, rfl⟩ := H
        go_wp2
        go_ret2
        exact ⟨by first | rfl | (simp [errW_none, errW_some] <;> rfl) | (simp [*, errW_none, errW_some] <;> rfl), by repeat (first | (with_reducible first | exact HB.out | apply below_alloc | apply pw_below_drewN | apply below_drew1) | exact HB.out)⟩
      · replace c9 := Bool.eq_false_iff.mpr c9
        subst c9
        have H1 : (if a3 = 2 then (wimpleref4_Data.j1 kj4 a0 a1 a2 a3 (⟨#[]⟩ : ByteArray) a1 0 a3 (a3 == 2)) else (if a3 = 5 then (wimpleref4_Data.j1 kj4 a0 a1 a2 a3 (⟨#[]⟩ : ByteArray) a1 0 a3 (a3 == 5)) else (wimpleref4_Data.j1 kj4 a0 a1 a2 a3 (⟨#[]⟩ : ByteArray) a1 0 a3 (a3 == 12)))) = some (r1, r2) := by rw [if_neg (show ¬ (false = true) by decide)] at H; exact H
        clear H
        have H := H1
        clear H1
        have HC10 := Aside0.mk H
        clear H
        go_upto_block 0 with (fail)
        go_cut [10, 11, 12] (fun v10 v11 v12 wc => ∃ (kq : Nat) (x10_9 : ByteArray) (x11_9 : Int) (x12_9 : Int), v10 = .string x10_9 ∧ v11 = .int .i64 x11_9 ∧ v12 = .int .i64 x12_9 ∧ Aside0 (wimpleref4_Data.j2 kq a0 a1 a2 a3 x10_9 x11_9 x12_9 = some (r1, r2)) ∧ Aside0 (kq ≤ kj4) ∧ Aside0 (Below w.heap.size w wc))
        case first =>
          have H := HC10.out
          clear HC10
          have HC11 := Aside0.mk H
          clear H
          go_upto_if 39 with (fail)
          go_cut [39] (fun v39 wc => ∃ (kq : Nat) (x39_10 : Bool), v39 = .bool x39_10 ∧ Aside0 (wimpleref4_Data.j1 kq a0 a1 a2 a3 (⟨#[]⟩ : ByteArray) a1 0 a3 x39_10 = some (r1, r2)) ∧ Aside0 (kq ≤ kj4) ∧ Aside0 (Below w.heap.size w wc))
          case first =>
            have H := HC11.out
            clear HC11
            by_cases c12 : a3 = 2
            · rw [if_pos c12] at H
              have c12b0 : (a3 == 2) = true := beq_iff_eq.mpr c12
              have c12b1 : (a3 != 2) = false := bne_eq_false_iff_eq.mpr c12
              clear c12
              (first | rw [c12b0] | (simp only [i64_w, i32_w]; rw [c12b0]) | skip)
              have H' := Aside0.mk H
              clear H
              go_wp2
              go_meet
              case rel => exact ⟨_, ((a3 == 2)), (by first | rfl | (simp; done) | (simp [*]; done)), H', ⟨by have := HJ4.out; first | omega | exact Nat.le_refl _⟩, ⟨by repeat (first | (with_reducible first | exact HB.out | apply below_alloc | apply pw_below_drewN | apply below_drew1) | exact HB.out)⟩⟩
            · rw [if_neg c12] at H
              have c12b0 : (a3 == 2) = false := beq_eq_false_iff_ne.mpr c12
              have c12b1 : (a3 != 2) = true := bne_iff_ne.mpr c12
              (first | rw [c12b0] | (simp only [i64_w, i32_w]; rw [c12b0]) | skip)
              by_cases c13 : a3 = 5
              · rw [if_pos c13] at H
                have c13b0 : (a3 == 5) = true := beq_iff_eq.mpr c13
                have c13b1 : (a3 != 5) = false := bne_eq_false_iff_eq.mpr c13
                clear c13
                have H' := Aside0.mk H
                clear H
                go_wp2
                go_meet
                case rel => exact ⟨_, ((a3 == 5)), (by first | rfl | (simp; done) | (simp [*]; done)), H', ⟨by have := HJ4.out; first | omega | exact Nat.le_refl _⟩, ⟨by repeat (first | (with_reducible first | exact HB.out | apply below_alloc | apply pw_below_drewN | apply below_drew1) | exact HB.out)⟩⟩
              · rw [if_neg c13] at H
                have c13b0 : (a3 == 5) = false := beq_eq_false_iff_ne.mpr c13
                have c13b1 : (a3 != 5) = true := bne_iff_ne.mpr c13
                have H' := Aside0.mk H
                clear H
                go_wp2
                go_meet
                case rel => exact ⟨_, ((a3 == 12)), (by first | rfl | (simp; done) | (simp [*]; done)), H', ⟨by have := HJ4.out; first | omega | exact Nat.le_refl _⟩, ⟨by repeat (first | (with_reducible first | exact HB.out | apply below_alloc | apply pw_below_drewN | apply below_drew1) | exact HB.out)⟩⟩
          case rest =>
            clear HC11
            try clear c1
            try clear p2
            try clear c6
            try clear c6b0
            try clear p6
            try clear c7
            try clear c7b0
            try clear c8
            try clear c8b0
            try clear c9
            try clear c12
            try clear c12b0
            try clear c12b1
            try clear c13
            try clear c13b0
            try clear c13b1
            try clear p2
            try clear p6
            obtain ⟨kq, x39_10, rfl, HA, HJ10, HB⟩ := hcut
            cases kq with
            | zero => exact absurd HA.out (by simp [wimpleref4_Data.j1])
            | succ kj10 =>
              have H := HA.out
              clear HA
              simp only [wimpleref4_Data.j1] at H
              by_cases c14 : x39_10 = true
              · subst c14
                have H1 : (wimpleref4_Data.j2 kj10 a0 a1 a2 a3 (⟨#[]⟩ : ByteArray) a1 1) = some (r1, r2) := by rw [if_pos rfl] at H; exact H
                clear H
                have H := H1
                clear H1
                have H' := Aside0.mk H
                clear H
                go_wp2
                go_meet
                case rel => exact ⟨_, ((⟨#[]⟩ : ByteArray)), (a1), (1), (by first | rfl | (simp; done) | (simp [*]; done)), (by first | rfl | (simp; done) | (simp [*]; done)), (by first | rfl | (simp; done) | (simp [*]; done)), H', ⟨by have := HJ4.out; have := HJ10.out; first | omega | exact Nat.le_refl _⟩, ⟨by repeat (first | (with_reducible first | exact HB.out | apply below_alloc | apply pw_below_drewN | apply below_drew1) | exact HB.out)⟩⟩
              · replace c14 := Bool.eq_false_iff.mpr c14
                subst c14
                have H1 : (if a3 = 15 then (if a2 < 2 then (some ((⟨#[]⟩ : ByteArray), 500)) else (if 0 ≤ a1 then (if a1 ≤ (wrap64 (a1 + 2)) then (if (wrap64 (a1 + 2)) ≤ (a0.size : Int) then (wimpleref4_Data.j2 kj10 a0 a1 a2 a3 (a0.extract (a1 : Int).toNat ((wrap64 (a1 + 2)) : Int).toNat) (wrap64 (a1 + 2)) 1) else (none)) else (none)) else (none))) else (if a3 = 6 then (wimpleref4_Data.j2 kj10 a0 a1 a2 a3 (⟨#[]⟩ : ByteArray) a1 2) else (wimpleref4_Data.j2 kj10 a0 a1 a2 a3 (⟨#[]⟩ : ByteArray) a1 0))) = some (r1, r2) := by rw [if_neg (show ¬ (false = true) by decide)] at H; exact H
                clear H
                have H := H1
                clear H1
                by_cases c15 : a3 = 15
                · rw [if_pos c15] at H
                  have c15b0 : (a3 == 15) = true := beq_iff_eq.mpr c15
                  have c15b1 : (a3 != 15) = false := bne_eq_false_iff_eq.mpr c15
                  clear c15
                  by_cases c16 : a2 < 2
                  · rw [if_pos c16] at H
                    have c16b0 : decide (a2 < 2) = true := decide_eq_true c16
                    clear c16
                    simp only [Option.some.injEq, Prod.mk.injEq] at H
                    obtain ⟨rfl, rfl⟩ := H
                    go_wp2
                    go_ret2
                    exact ⟨by first | rfl | (simp [errW_none, errW_some] <;> rfl) | (simp [*, errW_none, errW_some] <;> rfl), by repeat (first | (with_reducible first | exact HB.out | apply below_alloc | apply pw_below_drewN | apply below_drew1) | exact HB.out)⟩
                  · rw [if_neg c16] at H
                    have c16b0 : decide (a2 < 2) = false := decide_eq_false c16
                    clear c16
                    by_cases c17 : 0 ≤ a1
                    · rw [if_pos c17] at H
                      have c17b0 := eq_true c17
                      have c17b1 : decide (0 ≤ a1) = true := decide_eq_true c17
                      clear c17
                      by_cases c18 : a1 ≤ (wrap64 (a1 + 2))
                      · rw [if_pos c18] at H
                        have c18b0 := eq_true c18
                        have c18b1 : decide (a1 ≤ (wrap64 (a1 + 2))) = true := decide_eq_true c18
                        by_cases c19 : (wrap64 (a1 + 2)) ≤ (a0.size : Int)
                        · rw [if_pos c19] at H
                          have c19b0 := eq_true c19
                          have c19b1 : decide ((wrap64 (a1 + 2)) ≤ (a0.size : Int)) = true := decide_eq_true c19
                          have H' := Aside0.mk H
                          clear H
                          go_wp2
                          go_meet
                          case rel => exact ⟨_, (a0.extract (a1 : Int).toNat ((wrap64 (a1 + 2)) : Int).toNat), (wrap64 (a1 + 2)), (1), (by first | rfl | (simp; done) | (simp [*]; done)), (by first | rfl | (simp; done) | (simp [*]; done)), (by first | rfl | (simp; done) | (simp [*]; done)), H', ⟨by have := HJ4.out; have := HJ10.out; first | omega | exact Nat.le_refl _⟩, ⟨by repeat (first | (with_reducible first | exact HB.out | apply below_alloc | apply pw_below_drewN | apply below_drew1) | exact HB.out)⟩⟩
                        · rw [if_neg c19] at H
                          exact absurd H (by simp)
                      · rw [if_neg c18] at H
                        exact absurd H (by simp)
                    · rw [if_neg c17] at H
                      exact absurd H (by simp)
                · rw [if_neg c15] at H
                  have c15b0 : (a3 == 15) = false := beq_eq_false_iff_ne.mpr c15
                  have c15b1 : (a3 != 15) = true := bne_iff_ne.mpr c15
                  by_cases c20 : a3 = 6
                  · rw [if_pos c20] at H
                    have c20b0 : (a3 == 6) = true := beq_iff_eq.mpr c20
                    have c20b1 : (a3 != 6) = false := bne_eq_false_iff_eq.mpr c20
                    clear c20
                    have H' := Aside0.mk H
                    clear H
                    go_wp2
                    go_meet
                    case rel => exact ⟨_, ((⟨#[]⟩ : ByteArray)), (a1), (2), (by first | rfl | (simp; done) | (simp [*]; done)), (by first | rfl | (simp; done) | (simp [*]; done)), (by first | rfl | (simp; done) | (simp [*]; done)), H', ⟨by have := HJ4.out; have := HJ10.out; first | omega | exact Nat.le_refl _⟩, ⟨by repeat (first | (with_reducible first | exact HB.out | apply below_alloc | apply pw_below_drewN | apply below_drew1) | exact HB.out)⟩⟩
                  · rw [if_neg c20] at H
                    have c20b0 : (a3 == 6) = false := beq_eq_false_iff_ne.mpr c20
                    have c20b1 : (a3 != 6) = true := bne_iff_ne.mpr c20
                    have H' := Aside0.mk H
                    clear H
                    go_wp2
                    go_meet
                    case rel => exact ⟨_, ((⟨#[]⟩ : ByteArray)), (a1), (0), (by first | rfl | (simp; done) | (simp [*]; done)), (by first | rfl | (simp; done) | (simp [*]; done)), (by first | rfl | (simp; done) | (simp [*]; done)), H', ⟨by have := HJ4.out; have := HJ10.out; first | omega | exact Nat.le_refl _⟩, ⟨by repeat (first | (with_reducible first | exact HB.out | apply below_alloc | apply pw_below_drewN | apply below_drew1) | exact HB.out)⟩⟩
        case rest =>
          clear HC10
          try clear c1
          try clear c2
          try clear p2
          try clear c6
          try clear c6b0
          try clear p6
          try clear c7
          try clear c7b0
          try clear c8
          try clear c8b0
          try clear c9
          try clear c12
          try clear c12b0
          try clear c12b1
          try clear c13
          try clear c13b0
          try clear c13b1
          try clear c14
          try clear c15
          try clear c15b0
          try clear c15b1
          try clear c16
          try clear c16b0
          try clear c17
          try clear c17b0
          try clear c17b1
          try clear c18
          try clear c18b0
          try clear c18b1
          try clear c19
          try clear c19b0
          try clear c19b1
          try clear c20
          try clear c20b0
          try clear c20b1
          try clear p2
          try clear p6
          obtain ⟨kq, x10_9, x11_9, x12_9, rfl, rfl, rfl, HA, HJ9, HB⟩ := hcut
          cases kq with
          | zero => exact absurd HA.out (by simp [wimpleref4_Data.j2])
          | succ kj9 =>
            have H := HA.out
            clear HA
            simp only [wimpleref4_Data.j2] at H
            have H' := Aside0.mk H
            clear H
            go_wp2
            go_loopg [10, 11, 13] kj9 (fun kq v10 v11 v13 w' => ∃ (x10_3 : ByteArray) (x11_3 : Int) (x13_3 : Int), v10 = .string x10_3 ∧ v11 = .int .i64 x11_3 ∧ v13 = .int .i64 x13_3 ∧ Aside0 (wimpleref4_Data.l0 kq a0 a1 a2 a3 x10_3 x11_3 x12_9 x13_3 = some (r1, r2)) ∧ Aside0 (kq ≤ kj9) ∧ Aside0 (Below w.heap.size w w'))
            case atStart => exact ⟨(x10_9), (x11_9), (0), (by first | rfl | (simp; done) | (simp [*]; done)), (by first | rfl | (simp; done) | (simp [*]; done)), (by first | rfl | (simp; done) | (simp [*]; done)), H', ⟨Nat.le_refl _⟩, ⟨by repeat (first | (with_reducible first | exact HB.out | apply below_alloc | apply pw_below_drewN | apply below_drew1) | exact HB.out)⟩⟩
            case round =>
              clear H'
              try clear c1
              try clear c2
              try clear p2
              try clear c6
              try clear c6b0
              try clear p6
              try clear c7
              try clear c7b0
              try clear c8
              try clear c8b0
              try clear c9
              try clear c12
              try clear c12b0
              try clear c12b1
              try clear c13
              try clear c13b0
              try clear c13b1
              try clear c14
              try clear c15
              try clear c15b0
              try clear c15b1
              try clear c16
              try clear c16b0
              try clear c17
              try clear c17b0
              try clear c17b1
              try clear c18
              try clear c18b0
              try clear c18b1
              try clear c19
              try clear c19b0
              try clear c19b1
              try clear c20
              try clear c20b0
              try clear c20b1
              try clear p2
              try clear p6
              obtain ⟨x10_3, x11_3, x13_3, rfl, rfl, rfl, HA, HK3, HB⟩ := hrel
              cases gk with
              | zero => exact absurd HA.out (by simp [wimpleref4_Data.l0])
              | succ k3 =>
                have H := HA.out
                clear HA
                simp only [wimpleref4_Data.l0] at H
                by_cases c21 : x13_3 < x12_9
                · rw [if_pos c21] at H
                  have c21b0 : decide (x13_3 < x12_9) = true := decide_eq_true c21
                  clear c21
                  replace H := Option.bind_eq_some_iff.mp H
                  obtain ⟨⟨t110, t111, t112⟩, A220, H⟩ := H
                  replace H : (if t112 = 0 then (if t111 > (wrap64 (a1 + a2)) then (some ((⟨#[]⟩ : ByteArray), 500)) else (if x10_3.size + t110.size ≤ 9223372036854775807 then (wimpleref4_Data.l0 k3 a0 a1 a2 a3 (x10_3 ++ t110) t111 x12_9 (wrap64 (x13_3 + 1))) else (none))) else (some ((⟨#[]⟩ : ByteArray), 500))) = some (r1, r2) := H
                  have A22 := Aside0.mk A220
                  clear A220
                  by_cases c23 : t112 = 0
                  · rw [if_pos c23] at H
                    have c23b0 : (t112 == 0) = true := beq_iff_eq.mpr c23
                    have c23b1 : (t112 != 0) = false := bne_eq_false_iff_eq.mpr c23
                    clear c23
                    by_cases c24 : t111 > (wrap64 (a1 + a2))
                    · rw [if_pos c24] at H
                      have c24b0 : decide ((wrap64 (a1 + a2)) < t111) = true := decide_eq_true c24
                      clear c24
                      simp only [Option.some.injEq, Prod.mk.injEq] at H
                      obtain ⟨rfl, rfl⟩ := H
                      go_wp2_with (first | ((with_reducible refine gate_dst (N := 64) rfl ?_); (try (refine gate_guard (by rfl) ?_; dsimp only)); (with_reducible refine gate_callee (f := 79) rfl ?_); refine goesL_ (some 64) rfl rfl Try.func79 (by kernel_rfl) rfl #[.string a0, .int .i64 x11_3] rfl (by (try simp only [List.map_toArray, List.map_cons, List.map_nil]); first | done | rfl | (simp only [List.length_drop, List.length_take]; rfl)) ?_; (with_reducible refine (wimpleref4_Name.calls k3 a0 x11_3 t110 t111 t112 _ A22.out).mono ?_); rintro e w25 ⟨rfl, hb⟩; refine ⟨_, rfl, ?_⟩; have n0_ := Aside0.mk (below_step (by repeat (first | (with_reducible first | exact HB.out | apply below_alloc | apply pw_below_drewN | apply below_drew1) | exact HB.out)) hb); clear HB; have HB := n0_; clear n0_; (try clear hb); (try clear hb2); (try clear hk); (try clear hi)))
                      go_ret2
                      exact ⟨by first | rfl | (simp [errW_none, errW_some] <;> rfl) | (simp [*, errW_none, errW_some] <;> rfl), by repeat (first | (with_reducible first | exact HB.out | apply below_alloc | apply pw_below_drewN | apply below_drew1) | exact HB.out)⟩
                    · rw [if_neg c24] at H
                      have c24b0 : decide ((wrap64 (a1 + a2)) < t111) = false := decide_eq_false c24
                      clear c24
                      by_cases c26 : x10_3.size + t110.size ≤ 9223372036854775807
                      · rw [if_pos c26] at H
                        have c26b0 := eq_true c26
                        have c26b1 : decide (x10_3.size + t110.size ≤ 9223372036854775807) = true := decide_eq_true c26
                        try have c26b2 : (9223372036854775807 < x10_3.size + t110.size) = False := eq_false (Nat.not_lt.2 c26)
                        have H' := Aside0.mk H
                        clear H
                        go_wp2_with (first | ((with_reducible refine gate_dst (N := 64) rfl ?_); (try (refine gate_guard (by rfl) ?_; dsimp only)); (with_reducible refine gate_callee (f := 79) rfl ?_); refine goesL_ (some 64) rfl rfl Try.func79 (by kernel_rfl) rfl #[.string a0, .int .i64 x11_3] rfl (by (try simp only [List.map_toArray, List.map_cons, List.map_nil]); first | done | rfl | (simp only [List.length_drop, List.length_take]; rfl)) ?_; (with_reducible refine (wimpleref4_Name.calls k3 a0 x11_3 t110 t111 t112 _ A22.out).mono ?_); rintro e w27 ⟨rfl, hb⟩; refine ⟨_, rfl, ?_⟩; have n0_ := Aside0.mk (below_step (by repeat (first | (with_reducible first | exact HB.out | apply below_alloc | apply pw_below_drewN | apply below_drew1) | exact HB.out)) hb); clear HB; have HB := n0_; clear n0_; (try clear hb); (try clear hb2); (try clear hk); (try clear hi)))
                        go_roundg k3
                        case measure => have := HJ4.out; have := HJ9.out; have := HK3.out; omega
                        case rel => exact ⟨(x10_3 ++ t110), (t111), (wrap64 (x13_3 + 1)), (by first | rfl | (simp; done) | (simp [*]; done)), (by first | rfl | (simp; done) | (simp [*]; done)), (by first | rfl | (simp; done) | (simp [*]; done)), H', ⟨by have := HJ4.out; have := HJ9.out; have := HK3.out; omega⟩, ⟨by repeat (first | (with_reducible first | exact HB.out | apply below_alloc | apply pw_below_drewN | apply below_drew1) | exact HB.out)⟩⟩
                      · rw [if_neg c26] at H
                        exact absurd H (by simp)
                  · rw [if_neg c23] at H
                    have c23b0 : (t112 == 0) = false := beq_eq_false_iff_ne.mpr c23
                    have c23b1 : (t112 != 0) = true := bne_iff_ne.mpr c23
                    simp only [Option.some.injEq, Prod.mk.injEq] at H
                    obtain ⟨rfl, rfl⟩ := H
                    go_wp2_with (first | ((with_reducible refine gate_dst (N := 64) rfl ?_); (try (refine gate_guard (by rfl) ?_; dsimp only)); (with_reducible refine gate_callee (f := 79) rfl ?_); refine goesL_ (some 64) rfl rfl Try.func79 (by kernel_rfl) rfl #[.string a0, .int .i64 x11_3] rfl (by (try simp only [List.map_toArray, List.map_cons, List.map_nil]); first | done | rfl | (simp only [List.length_drop, List.length_take]; rfl)) ?_; (with_reducible refine (wimpleref4_Name.calls k3 a0 x11_3 t110 t111 t112 _ A22.out).mono ?_); rintro e w28 ⟨rfl, hb⟩; refine ⟨_, rfl, ?_⟩; have n0_ := Aside0.mk (below_step (by repeat (first | (with_reducible first | exact HB.out | apply below_alloc | apply pw_below_drewN | apply below_drew1) | exact HB.out)) hb); clear HB; have HB := n0_; clear n0_; (try clear hb); (try clear hb2); (try clear hk); (try clear hi)))
                    go_ret2
                    exact ⟨by first | rfl | (simp [errW_none, errW_some] <;> rfl) | (simp [*, errW_none, errW_some] <;> rfl), by repeat (first | (with_reducible first | exact HB.out | apply below_alloc | apply pw_below_drewN | apply below_drew1) | exact HB.out)⟩
                · rw [if_neg c21] at H
                  have c21b0 : decide (x13_3 < x12_9) = false := decide_eq_false c21
                  clear c21
                  by_cases c29 : 0 ≤ x11_3
                  · rw [if_pos c29] at H
                    have c29b0 := eq_true c29
                    have c29b1 : decide (0 ≤ x11_3) = true := decide_eq_true c29
                    clear c29
                    by_cases c30 : x11_3 ≤ (wrap64 (a1 + a2))
                    · rw [if_pos c30] at H
                      have c30b0 := eq_true c30
                      have c30b1 : decide (x11_3 ≤ (wrap64 (a1 + a2))) = true := decide_eq_true c30
                      by_cases c31 : (wrap64 (a1 + a2)) ≤ (a0.size : Int)
                      · rw [if_pos c31] at H
                        have c31b0 := eq_true c31
                        have c31b1 : decide ((wrap64 (a1 + a2)) ≤ (a0.size : Int)) = true := decide_eq_true c31
                        by_cases c32 : x10_3.size + (a0.extract (x11_3 : Int).toNat ((wrap64 (a1 + a2)) : Int).toNat).size ≤ 9223372036854775807
                        · rw [if_pos c32] at H
                          have c32b0 := eq_true c32
                          have c32b1 : decide (x10_3.size + (a0.extract (x11_3 : Int).toNat ((wrap64 (a1 + a2)) : Int).toNat).size ≤ 9223372036854775807) = true := decide_eq_true c32
                          try have c32b2 : (9223372036854775807 < x10_3.size + (a0.extract (x11_3 : Int).toNat ((wrap64 (a1 + a2)) : Int).toNat).size) = False := eq_false (Nat.not_lt.2 c32)
                          replace H := Option.bind_eq_some_iff.mp H
                          obtain ⟨t113, A330, H⟩ := H
                          replace H : (if t113 = true then (if x12_9 > 0 then (if a3 = 6 then (some (x10_3 ++ (a0.extract (x11_3 : Int).toNat ((wrap64 (a1 + a2)) : Int).toNat), 0)) else (if x11_3 = (wrap64 (a1 + a2)) then (some (x10_3 ++ (a0.extract (x11_3 : Int).toNat ((wrap64 (a1 + a2)) : Int).toNat), 0)) else (some ((⟨#[]⟩ : ByteArray), 500)))) else (some (x10_3 ++ (a0.extract (x11_3 : Int).toNat ((wrap64 (a1 + a2)) : Int).toNat), 0))) else (some ((⟨#[]⟩ : ByteArray), 500))) = some (r1, r2) := H
                          have A33 := Aside0.mk A330
                          clear A330
                          by_cases c34 : t113 = true
                          · subst c34
                            have H1 : (if x12_9 > 0 then (if a3 = 6 then (some (x10_3 ++ (a0.extract (x11_3 : Int).toNat ((wrap64 (a1 + a2)) : Int).toNat), 0)) else (if x11_3 = (wrap64 (a1 + a2)) then (some (x10_3 ++ (a0.extract (x11_3 : Int).toNat ((wrap64 (a1 + a2)) : Int).toNat), 0)) else (some ((⟨#[]⟩ : ByteArray), 500)))) else (some (x10_3 ++ (a0.extract (x11_3 : Int).toNat ((wrap64 (a1 + a2)) : Int).toNat), 0))) = some (r1, r2) := by rw [if_pos rfl] at H; exact H
                            clear H
                            have H := H1
                            clear H1
                            by_cases c35 : x12_9 > 0
                            · rw [if_pos c35] at H
                              have c35b0 : decide (0 < x12_9) = true := decide_eq_true c35
                              clear c35
                              by_cases c36 : a3 = 6
                              · rw [if_pos c36] at H
                                have c36b0 : (a3 == 6) = true := beq_iff_eq.mpr c36
                                have c36b1 : (a3 != 6) = false := bne_eq_false_iff_eq.mpr c36
                                clear c36
                                simp only [Option.some.injEq, Prod.mk.injEq] at H
                                obtain ⟨rfl, rfl⟩ := H
                                go_wp2_with (first | ((with_reducible refine gate_dst (N := 91) rfl ?_); (try (refine gate_guard (by rfl) ?_; dsimp only)); (with_reducible refine gate_callee (f := 98) rfl ?_); refine goesL_ (some 91) rfl rfl Try.func98 (by kernel_rfl) rfl #[.int .i64 a3, .string (x10_3 ++ (a0.extract (x11_3 : Int).toNat ((wrap64 (a1 + a2)) : Int).toNat))] rfl (by (try simp only [List.map_toArray, List.map_cons, List.map_nil]); first | done | rfl | (simp only [List.length_drop, List.length_take]; rfl)) ?_; (with_reducible refine (wimpleref4_DataMay.calls a3 (x10_3 ++ (a0.extract (x11_3 : Int).toNat ((wrap64 (a1 + a2)) : Int).toNat)) true _ A33.out).mono ?_); rintro e w37 ⟨rfl, hb⟩; refine ⟨_, rfl, ?_⟩; have n0_ := Aside0.mk (below_step (by repeat (first | (with_reducible first | exact HB.out | apply below_alloc | apply pw_below_drewN | apply below_drew1) | exact HB.out)) hb); clear HB; have HB := n0_; clear n0_; (try clear hb); (try clear hb2); (try clear hk); (try clear hi)))
                                go_ret2
                                exact ⟨by first | rfl | (simp [errW_none, errW_some] <;> rfl) | (simp [*, errW_none, errW_some] <;> rfl), by repeat (first | (with_reducible first | exact HB.out | apply below_alloc | apply pw_below_drewN | apply below_drew1) | exact HB.out)⟩
                              · rw [if_neg c36] at H
                                have c36b0 : (a3 == 6) = false := beq_eq_false_iff_ne.mpr c36
                                have c36b1 : (a3 != 6) = true := bne_iff_ne.mpr c36
                                by_cases c38 : x11_3 = (wrap64 (a1 + a2))
                                · rw [if_pos c38] at H
                                  have c38b0 : (x11_3 == (wrap64 (a1 + a2))) = true := beq_iff_eq.mpr c38
                                  have c38b1 : (x11_3 != (wrap64 (a1 + a2))) = false := bne_eq_false_iff_eq.mpr c38
                                  clear c38
                                  simp only [Option.some.injEq, Prod.mk.injEq] at H
                                  obtain ⟨rfl, rfl⟩ := H
                                  go_wp2_with (first | ((with_reducible refine gate_dst (N := 91) rfl ?_); (try (refine gate_guard (by rfl) ?_; dsimp only)); (with_reducible refine gate_callee (f := 98) rfl ?_); refine goesL_ (some 91) rfl rfl Try.func98 (by kernel_rfl) rfl #[.int .i64 a3, .string (x10_3 ++ (a0.extract (x11_3 : Int).toNat ((wrap64 (a1 + a2)) : Int).toNat))] rfl (by (try simp only [List.map_toArray, List.map_cons, List.map_nil]); first | done | rfl | (simp only [List.length_drop, List.length_take]; rfl)) ?_; (with_reducible refine (wimpleref4_DataMay.calls a3 (x10_3 ++ (a0.extract (x11_3 : Int).toNat ((wrap64 (a1 + a2)) : Int).toNat)) true _ A33.out).mono ?_); rintro e w39 ⟨rfl, hb⟩; refine ⟨_, rfl, ?_⟩; have n0_ := Aside0.mk (below_step (by repeat (first | (with_reducible first | exact HB.out | apply below_alloc | apply pw_below_drewN | apply below_drew1) | exact HB.out)) hb); clear HB; have HB := n0_; clear n0_; (try clear hb); (try clear hb2); (try clear hk); (try clear hi)))
                                  go_ret2
                                  exact ⟨by first | rfl | (simp [errW_none, errW_some] <;> rfl) | (simp [*, errW_none, errW_some] <;> rfl), by repeat (first | (with_reducible first | exact HB.out | apply below_alloc | apply pw_below_drewN | apply below_drew1) | exact HB.out)⟩
                                · rw [if_neg c38] at H
                                  have c38b0 : (x11_3 == (wrap64 (a1 + a2))) = false := beq_eq_false_iff_ne.mpr c38
                                  have c38b1 : (x11_3 != (wrap64 (a1 + a2))) = true := bne_iff_ne.mpr c38
                                  simp only [Option.some.injEq, Prod.mk.injEq] at H
                                  obtain ⟨rfl, rfl⟩ := H
                                  go_wp2_with (first | ((with_reducible refine gate_dst (N := 91) rfl ?_); (try (refine gate_guard (by rfl) ?_; dsimp only)); (with_reducible refine gate_callee (f := 98) rfl ?_); refine goesL_ (some 91) rfl rfl Try.func98 (by kernel_rfl) rfl #[.int .i64 a3, .string (x10_3 ++ (a0.extract (x11_3 : Int).toNat ((wrap64 (a1 + a2)) : Int).toNat))] rfl (by (try simp only [List.map_toArray, List.map_cons, List.map_nil]); first | done | rfl | (simp only [List.length_drop, List.length_take]; rfl)) ?_; (with_reducible refine (wimpleref4_DataMay.calls a3 (x10_3 ++ (a0.extract (x11_3 : Int).toNat ((wrap64 (a1 + a2)) : Int).toNat)) true _ A33.out).mono ?_); rintro e w40 ⟨rfl, hb⟩; refine ⟨_, rfl, ?_⟩; have n0_ := Aside0.mk (below_step (by repeat (first | (with_reducible first | exact HB.out | apply below_alloc | apply pw_below_drewN | apply below_drew1) | exact HB.out)) hb); clear HB; have HB := n0_; clear n0_; (try clear hb); (try clear hb2); (try clear hk); (try clear hi)))
                                  go_ret2
                                  exact ⟨by first | rfl | (simp [errW_none, errW_some] <;> rfl) | (simp [*, errW_none, errW_some] <;> rfl), by repeat (first | (with_reducible first | exact HB.out | apply below_alloc | apply pw_below_drewN | apply below_drew1) | exact HB.out)⟩
                            · rw [if_neg c35] at H
                              have c35b0 : decide (0 < x12_9) = false := decide_eq_false c35
                              clear c35
                              simp only [Option.some.injEq, Prod.mk.injEq] at H
                              obtain ⟨rfl, rfl⟩ := H
                              go_wp2_with (first | ((with_reducible refine gate_dst (N := 91) rfl ?_); (try (refine gate_guard (by rfl) ?_; dsimp only)); (with_reducible refine gate_callee (f := 98) rfl ?_); refine goesL_ (some 91) rfl rfl Try.func98 (by kernel_rfl) rfl #[.int .i64 a3, .string (x10_3 ++ (a0.extract (x11_3 : Int).toNat ((wrap64 (a1 + a2)) : Int).toNat))] rfl (by (try simp only [List.map_toArray, List.map_cons, List.map_nil]); first | done | rfl | (simp only [List.length_drop, List.length_take]; rfl)) ?_; (with_reducible refine (wimpleref4_DataMay.calls a3 (x10_3 ++ (a0.extract (x11_3 : Int).toNat ((wrap64 (a1 + a2)) : Int).toNat)) true _ A33.out).mono ?_); rintro e w41 ⟨rfl, hb⟩; refine ⟨_, rfl, ?_⟩; have n0_ := Aside0.mk (below_step (by repeat (first | (with_reducible first | exact HB.out | apply below_alloc | apply pw_below_drewN | apply below_drew1) | exact HB.out)) hb); clear HB; have HB := n0_; clear n0_; (try clear hb); (try clear hb2); (try clear hk); (try clear hi)))
                              go_ret2
                              exact ⟨by first | rfl | (simp [errW_none, errW_some] <;> rfl) | (simp [*, errW_none, errW_some] <;> rfl), by repeat (first | (with_reducible first | exact HB.out | apply below_alloc | apply pw_below_drewN | apply below_drew1) | exact HB.out)⟩
                          · replace c34 := Bool.eq_false_iff.mpr c34
                            subst c34
                            have H1 : (some ((⟨#[]⟩ : ByteArray), 500)) = some (r1, r2) := by rw [if_neg (show ¬ (false = true) by decide)] at H; exact H
                            clear H
                            have H := H1
                            clear H1
                            simp only [Option.some.injEq, Prod.mk.injEq] at H
                            obtain ⟨rfl, rfl⟩ := H
                            go_wp2_with (first | ((with_reducible refine gate_dst (N := 91) rfl ?_); (try (refine gate_guard (by rfl) ?_; dsimp only)); (with_reducible refine gate_callee (f := 98) rfl ?_); refine goesL_ (some 91) rfl rfl Try.func98 (by kernel_rfl) rfl #[.int .i64 a3, .string (x10_3 ++ (a0.extract (x11_3 : Int).toNat ((wrap64 (a1 + a2)) : Int).toNat))] rfl (by (try simp only [List.map_toArray, List.map_cons, List.map_nil]); first | done | rfl | (simp only [List.length_drop, List.length_take]; rfl)) ?_; (with_reducible refine (wimpleref4_DataMay.calls a3 (x10_3 ++ (a0.extract (x11_3 : Int).toNat ((wrap64 (a1 + a2)) : Int).toNat)) false _ A33.out).mono ?_); rintro e w42 ⟨rfl, hb⟩; refine ⟨_, rfl, ?_⟩; have n0_ := Aside0.mk (below_step (by repeat (first | (with_reducible first | exact HB.out | apply below_alloc | apply pw_below_drewN | apply below_drew1) | exact HB.out)) hb); clear HB; have HB := n0_; clear n0_; (try clear hb); (try clear hb2); (try clear hk); (try clear hi)))
                            go_ret2
                            exact ⟨by first | rfl | (simp [errW_none, errW_some] <;> rfl) | (simp [*, errW_none, errW_some] <;> rfl), by repeat (first | (with_reducible first | exact HB.out | apply below_alloc | apply pw_below_drewN | apply below_drew1) | exact HB.out)⟩
                        · rw [if_neg c32] at H
                          exact absurd H (by simp)
                      · rw [if_neg c31] at H
                        exact absurd H (by simp)
                    · rw [if_neg c30] at H
                      exact absurd H (by simp)
                  · rw [if_neg c29] at H
                    exact absurd H (by simp)

/-! ### wimpleref4_question: function 49 -/
def wimpleref4_question.f (k : Nat) (a0 : ByteArray) (a1 : Int) : Option (ByteArray × Int × Int × Int × Bool) := (wimpleref4_Name.f k a0 a1).bind fun bt115 => (if bt115.2.2 = 0 then ((wimpleref1_Num.f k a0 bt115.2.1 2).bind fun bt118 => ((wimpleref1_Num.f k a0 bt118.2.1 2).bind fun bt121 => (if bt118.2.2 = 0 then (if bt121.2.2 = 0 then (some (bt115.1, bt118.1, bt121.1, bt121.2.1, decide (bt118.1 > 0))) else (some (bt115.1, bt118.1, bt121.1, bt121.2.1, false))) else (some (bt115.1, bt118.1, bt121.1, bt121.2.1, false))))) else (some ((⟨#[]⟩ : ByteArray), 0, 0, 0, false)))
set_option maxHeartbeats 8000000 in
set_option maxRecDepth 100000 in
theorem wimpleref4_question.calls (k : Nat) (a0 : ByteArray) (a1 : Int) (r1 : ByteArray) (r2 : Int) (r3 : Int) (r4 : Int) (r5 : Bool) (w : World) (h : wimpleref4_question.f k a0 a1 = some (r1, r2, r3, r4, r5)) :
    Calls Try.prog 49 #[.string a0, .int .i64 a1] w fun e w' => e = .returned (.tuple #[.agg #[.string r1, .int .i64 r2, .int .i64 r3], .int .i64 r4, .bool r5]) ∧ Below w.heap.size w w' := by
  have hu40 := Try.underlying40
  have HB := Aside0.mk (Below.refl w.heap.size w)
  have H : ((wimpleref4_Name.f k a0 a1).bind fun bt115 => (if bt115.2.2 = 0 then ((wimpleref1_Num.f k a0 bt115.2.1 2).bind fun bt118 => ((wimpleref1_Num.f k a0 bt118.2.1 2).bind fun bt121 => (if bt118.2.2 = 0 then (if bt121.2.2 = 0 then (some (bt115.1, bt118.1, bt121.1, bt121.2.1, decide (bt118.1 > 0))) else (some (bt115.1, bt118.1, bt121.1, bt121.2.1, false))) else (some (bt115.1, bt118.1, bt121.1, bt121.2.1, false))))) else (some ((⟨#[]⟩ : ByteArray), 0, 0, 0, false)))) = some (r1, r2, r3, r4, r5) := h
  clear h
  replace H := Option.bind_eq_some_iff.mp H
  obtain ⟨⟨t115, t116, t117⟩, A30, H⟩ := H
  replace H : (if t117 = 0 then ((wimpleref1_Num.f k a0 t116 2).bind fun bt118 => ((wimpleref1_Num.f k a0 bt118.2.1 2).bind fun bt121 => (if bt118.2.2 = 0 then (if bt121.2.2 = 0 then (some (t115, bt118.1, bt121.1, bt121.2.1, decide (bt118.1 > 0))) else (some (t115, bt118.1, bt121.1, bt121.2.1, false))) else (some (t115, bt118.1, bt121.1, bt121.2.1, false))))) else (some ((⟨#[]⟩ : ByteArray), 0, 0, 0, false))) = some (r1, r2, r3, r4, r5) := H
  have A3 := Aside0.mk A30
  clear A30
  by_cases c4 : t117 = 0
  · rw [if_pos c4] at H
    have c4b0 : (t117 == 0) = true := beq_iff_eq.mpr c4
    have c4b1 : (t117 != 0) = false := bne_eq_false_iff_eq.mpr c4
    clear c4
    replace H := Option.bind_eq_some_iff.mp H
    obtain ⟨⟨t118, t119, t120⟩, A50, H⟩ := H
    replace H : ((wimpleref1_Num.f k a0 t119 2).bind fun bt121 => (if t120 = 0 then (if bt121.2.2 = 0 then (some (t115, t118, bt121.1, bt121.2.1, decide (t118 > 0))) else (some (t115, t118, bt121.1, bt121.2.1, false))) else (some (t115, t118, bt121.1, bt121.2.1, false)))) = some (r1, r2, r3, r4, r5) := H
    have A5 := Aside0.mk A50
    clear A50
    replace H := Option.bind_eq_some_iff.mp H
    obtain ⟨⟨t121, t122, t123⟩, A60, H⟩ := H
    replace H : (if t120 = 0 then (if t123 = 0 then (some (t115, t118, t121, t122, decide (t118 > 0))) else (some (t115, t118, t121, t122, false))) else (some (t115, t118, t121, t122, false))) = some (r1, r2, r3, r4, r5) := H
    have A6 := Aside0.mk A60
    clear A60
    by_cases c7 : t120 = 0
    · rw [if_pos c7] at H
      have c7b0 : (t120 == 0) = true := beq_iff_eq.mpr c7
      have c7b1 : (t120 != 0) = false := bne_eq_false_iff_eq.mpr c7
      clear c7
      by_cases c8 : t123 = 0
      · rw [if_pos c8] at H
        have c8b0 : (t123 == 0) = true := beq_iff_eq.mpr c8
        have c8b1 : (t123 != 0) = false := bne_eq_false_iff_eq.mpr c8
        clear c8
        simp only [Option.some.injEq, Prod.mk.injEq] at H
        obtain ⟨rfl, rfl, rfl, rfl, rfl⟩ := H
        go_enter Try.func49, Try.ntmps49
        go_wp2_with (first | ((with_reducible refine gate_dst (N := 4) rfl ?_); refine box_event ?hg (N := 4) ?hd (cs := #[.string (⟨#[]⟩ : ByteArray), .int .i64 0, .int .i64 0]) (t := 40) ?hr ?_; (case hd => rfl); (case hg => rfl); (case hr => first | (go_simp; done) | (go_simp; rfl)); intro gb114 hg w9 hbox hb; have n0_ := Aside0.mk (below_step (by repeat (first | (with_reducible first | exact HB.out | apply below_alloc | apply pw_below_drewN | apply below_drew1) | exact HB.out)) hb); have n1_ := Aside0.mk (hbox); have n2_ := Aside0.mk ((by rw [hg]; exact (below_size (by repeat (first | (with_reducible first | exact HB.out | apply below_alloc | apply pw_below_drewN | apply below_drew1) | exact HB.out))) : w.heap.size ≤ gb114)); have n3_ := Aside0.mk ((by rw [hg]; exact (below_size (by repeat (first | (with_reducible first | exact HB.out | apply below_alloc | apply pw_below_drewN | apply below_drew1) | exact HB.out))) : w.heap.size ≤ gb114)); clear HB; have HB := n0_; have BK114 := n1_; have GW114 := n2_; have GE114 := n3_; clear n0_ n1_ n2_ n3_; clear hb hbox hg) | ((with_reducible refine gate_dst (N := 19) rfl ?_); (with_reducible refine gate_callee (f := 79) rfl ?_); refine goesL_ (some 19) rfl rfl Try.func79 (by kernel_rfl) rfl #[.string a0, .int .i64 a1] rfl (by (try simp only [List.map_toArray, List.map_cons, List.map_nil]); first | done | rfl | (simp only [List.length_drop, List.length_take]; rfl)) ?_; (with_reducible refine (wimpleref4_Name.calls k a0 a1 t115 t116 t117 _ A3.out).mono ?_); rintro e w10 ⟨rfl, hb⟩; refine ⟨_, rfl, ?_⟩; have n0_ := Aside0.mk (blk_below (g := gb114) (o := .cells #[.string (⟨#[]⟩ : ByteArray), .int .i64 0, .int .i64 0] 40 (0, 0)) (by (with_reducible repeat (first | refine blk_drewN ?_ _ | refine blk_drew ?_ | refine blk_alloc ?_ _)); exact BK114.out) hb); have n1_ := Aside0.mk (below_step (by repeat (first | (with_reducible first | exact HB.out | apply below_alloc | apply pw_below_drewN | apply below_drew1 | refine below_set ?_ GE114.out) | exact HB.out)) hb); clear BK114; clear HB; have BK114 := n0_; have HB := n1_; clear n0_ n1_; (try clear hb); (try clear hb2); (try clear hk); (try clear hi)) | ((with_reducible refine gate_dst (N := 29) rfl ?_); (with_reducible refine gate_callee (f := 54) rfl ?_); refine goesL_ (some 29) rfl rfl Try.func54 (by kernel_rfl) rfl #[.string a0, .int .i64 t116, .int .i64 2] rfl (by (try simp only [List.map_toArray, List.map_cons, List.map_nil]); first | done | rfl | (simp only [List.length_drop, List.length_take]; rfl)) ?_; (with_reducible refine (wimpleref1_Num.calls k a0 t116 2 t118 t119 t120 _ A5.out).mono ?_); rintro e w' ⟨rfl, ⟨nd, rfl⟩⟩; refine ⟨_, rfl, ?_⟩; (try (rw [drewN_self w10]; generalize hq_ : World.drewN w10 _ = w10; have n0_ : Aside0 (w10.heap[gb114]? = some (.cells #[.string (⟨#[]⟩ : ByteArray), .int .i64 0, .int .i64 0] 40 (0, 0))) := ⟨by rw [← hq_]; exact (by (with_reducible repeat (first | refine blk_drewN ?_ _ | refine blk_drew ?_ | refine blk_alloc ?_ _)); exact BK114.out)⟩; have n1_ : Aside0 (Below w.heap.size w w10) := ⟨by rw [← hq_]; exact (by repeat (first | (with_reducible first | exact HB.out | apply below_alloc | apply pw_below_drewN | apply below_drew1 | refine below_set ?_ GE114.out) | exact HB.out))⟩; clear BK114 HB hq_; have BK114 := n0_; have HB := n1_; clear n0_ n1_)); have hcz11_0 : w10.cell? ⟨gb114, 0, none⟩ = some (.string (⟨#[]⟩ : ByteArray)) := (blk_cell BK114.out 0).trans rfl; have hcz11_1 : w10.cell? ⟨gb114, 1, none⟩ = some (.int .i64 0) := (blk_cell BK114.out 1).trans rfl; have hcz11_2 : w10.cell? ⟨gb114, 2, none⟩ = some (.int .i64 0) := (blk_cell BK114.out 2).trans rfl; have hfz11_0 := blk_frozen BK114.out 0; have hfz11_1 := blk_frozen BK114.out 1; have hfz11_2 := blk_frozen BK114.out 2) | ((with_reducible refine gate_dst (N := 36) rfl ?_); (with_reducible refine gate_callee (f := 54) rfl ?_); refine goesL_ (some 36) rfl rfl Try.func54 (by kernel_rfl) rfl #[.string a0, .int .i64 t119, .int .i64 2] rfl (by (try simp only [List.map_toArray, List.map_cons, List.map_nil]); first | done | rfl | (simp only [List.length_drop, List.length_take]; rfl)) ?_; (with_reducible refine (wimpleref1_Num.calls k a0 t119 2 t121 t122 t123 _ A6.out).mono ?_); rintro e w' ⟨rfl, ⟨nd, rfl⟩⟩; refine ⟨_, rfl, ?_⟩; (try (rw [drewN_self w10]; generalize hq_ : World.drewN w10 _ = w10; have n0_ : Aside0 (w10.heap[gb114]? = some (.cells #[.string (⟨#[]⟩ : ByteArray), .int .i64 0, .int .i64 0] 40 (0, 0))) := ⟨by rw [← hq_]; exact (by (with_reducible repeat (first | refine blk_drewN ?_ _ | refine blk_drew ?_ | refine blk_alloc ?_ _)); exact BK114.out)⟩; have n1_ : Aside0 (Below w.heap.size w w10) := ⟨by rw [← hq_]; exact (by repeat (first | (with_reducible first | exact HB.out | apply below_alloc | apply pw_below_drewN | apply below_drew1 | refine below_set ?_ GE114.out) | exact HB.out))⟩; clear BK114 HB hq_; have BK114 := n0_; have HB := n1_; clear n0_ n1_)); have hcz12_0 : w10.cell? ⟨gb114, 0, none⟩ = some (.string (⟨#[]⟩ : ByteArray)) := (blk_cell BK114.out 0).trans rfl; have hcz12_1 : w10.cell? ⟨gb114, 1, none⟩ = some (.int .i64 0) := (blk_cell BK114.out 1).trans rfl; have hcz12_2 : w10.cell? ⟨gb114, 2, none⟩ = some (.int .i64 0) := (blk_cell BK114.out 2).trans rfl; have hfz12_0 := blk_frozen BK114.out 0; have hfz12_1 := blk_frozen BK114.out 1; have hfz12_2 := blk_frozen BK114.out 2))
        refine bodyPost_ret (results_ctt rfl _ _ gb114 40 #[.string t115, .int .i64 t118, .int .i64 t121] (0, 0) _ rfl (by (with_reducible repeat (first | refine blk_drewN ?_ _ | refine blk_drew ?_ | refine blk_alloc ?_ _)); refine blk_put (cs := #[.string t115, .int .i64 t118, .int .i64 0]) ?_ 2 _ rfl; (with_reducible repeat (first | refine blk_drewN ?_ _ | refine blk_drew ?_ | refine blk_alloc ?_ _)); refine blk_put (cs := #[.string t115, .int .i64 0, .int .i64 0]) ?_ 1 _ rfl; (with_reducible repeat (first | refine blk_drewN ?_ _ | refine blk_drew ?_ | refine blk_alloc ?_ _)); refine blk_put (cs := #[.string (⟨#[]⟩ : ByteArray), .int .i64 0, .int .i64 0]) ?_ 0 _ rfl; (with_reducible repeat (first | refine blk_drewN ?_ _ | refine blk_drew ?_ | refine blk_alloc ?_ _)); exact BK114.out) Try.underlying40 rfl (by kernel_rfl)) rfl ?_
        exact ⟨by first | rfl | (simp [errW_none, errW_some] <;> rfl) | (simp [*, errW_none, errW_some] <;> rfl), by repeat (first | (with_reducible first | exact HB.out | apply below_alloc | apply pw_below_drewN | apply below_drew1 | refine below_set ?_ GE114.out) | exact HB.out)⟩
      · rw [if_neg c8] at H
        have c8b0 : (t123 == 0) = false := beq_eq_false_iff_ne.mpr c8
        have c8b1 : (t123 != 0) = true := bne_iff_ne.mpr c8
        simp only [Option.some.injEq, Prod.mk.injEq] at H
        obtain ⟨rfl, rfl, rfl, rfl, rfl⟩ := H
        go_enter Try.func49, Try.ntmps49
        go_wp2_with (first | ((with_reducible refine gate_dst (N := 4) rfl ?_); refine box_event ?hg (N := 4) ?hd (cs := #[.string (⟨#[]⟩ : ByteArray), .int .i64 0, .int .i64 0]) (t := 40) ?hr ?_; (case hd => rfl); (case hg => rfl); (case hr => first | (go_simp; done) | (go_simp; rfl)); intro gb114 hg w13 hbox hb; have n0_ := Aside0.mk (below_step (by repeat (first | (with_reducible first | exact HB.out | apply below_alloc | apply pw_below_drewN | apply below_drew1) | exact HB.out)) hb); have n1_ := Aside0.mk (hbox); have n2_ := Aside0.mk ((by rw [hg]; exact (below_size (by repeat (first | (with_reducible first | exact HB.out | apply below_alloc | apply pw_below_drewN | apply below_drew1) | exact HB.out))) : w.heap.size ≤ gb114)); have n3_ := Aside0.mk ((by rw [hg]; exact (below_size (by repeat (first | (with_reducible first | exact HB.out | apply below_alloc | apply pw_below_drewN | apply below_drew1) | exact HB.out))) : w.heap.size ≤ gb114)); clear HB; have HB := n0_; have BK114 := n1_; have GW114 := n2_; have GE114 := n3_; clear n0_ n1_ n2_ n3_; clear hb hbox hg) | ((with_reducible refine gate_dst (N := 19) rfl ?_); (with_reducible refine gate_callee (f := 79) rfl ?_); refine goesL_ (some 19) rfl rfl Try.func79 (by kernel_rfl) rfl #[.string a0, .int .i64 a1] rfl (by (try simp only [List.map_toArray, List.map_cons, List.map_nil]); first | done | rfl | (simp only [List.length_drop, List.length_take]; rfl)) ?_; (with_reducible refine (wimpleref4_Name.calls k a0 a1 t115 t116 t117 _ A3.out).mono ?_); rintro e w14 ⟨rfl, hb⟩; refine ⟨_, rfl, ?_⟩; have n0_ := Aside0.mk (blk_below (g := gb114) (o := .cells #[.string (⟨#[]⟩ : ByteArray), .int .i64 0, .int .i64 0] 40 (0, 0)) (by (with_reducible repeat (first | refine blk_drewN ?_ _ | refine blk_drew ?_ | refine blk_alloc ?_ _)); exact BK114.out) hb); have n1_ := Aside0.mk (below_step (by repeat (first | (with_reducible first | exact HB.out | apply below_alloc | apply pw_below_drewN | apply below_drew1 | refine below_set ?_ GE114.out) | exact HB.out)) hb); clear BK114; clear HB; have BK114 := n0_; have HB := n1_; clear n0_ n1_; (try clear hb); (try clear hb2); (try clear hk); (try clear hi)) | ((with_reducible refine gate_dst (N := 29) rfl ?_); (with_reducible refine gate_callee (f := 54) rfl ?_); refine goesL_ (some 29) rfl rfl Try.func54 (by kernel_rfl) rfl #[.string a0, .int .i64 t116, .int .i64 2] rfl (by (try simp only [List.map_toArray, List.map_cons, List.map_nil]); first | done | rfl | (simp only [List.length_drop, List.length_take]; rfl)) ?_; (with_reducible refine (wimpleref1_Num.calls k a0 t116 2 t118 t119 t120 _ A5.out).mono ?_); rintro e w' ⟨rfl, ⟨nd, rfl⟩⟩; refine ⟨_, rfl, ?_⟩; (try (rw [drewN_self w14]; generalize hq_ : World.drewN w14 _ = w14; have n0_ : Aside0 (w14.heap[gb114]? = some (.cells #[.string (⟨#[]⟩ : ByteArray), .int .i64 0, .int .i64 0] 40 (0, 0))) := ⟨by rw [← hq_]; exact (by (with_reducible repeat (first | refine blk_drewN ?_ _ | refine blk_drew ?_ | refine blk_alloc ?_ _)); exact BK114.out)⟩; have n1_ : Aside0 (Below w.heap.size w w14) := ⟨by rw [← hq_]; exact (by repeat (first | (with_reducible first | exact HB.out | apply below_alloc | apply pw_below_drewN | apply below_drew1 | refine below_set ?_ GE114.out) | exact HB.out))⟩; clear BK114 HB hq_; have BK114 := n0_; have HB := n1_; clear n0_ n1_)); (try clear hcz11_0 hcz11_1 hcz11_2 hfz11_0 hfz11_1 hfz11_2); (try clear hcz12_0 hcz12_1 hcz12_2 hfz12_0 hfz12_1 hfz12_2); have hcz15_0 : w14.cell? ⟨gb114, 0, none⟩ = some (.string (⟨#[]⟩ : ByteArray)) := (blk_cell BK114.out 0).trans rfl; have hcz15_1 : w14.cell? ⟨gb114, 1, none⟩ = some (.int .i64 0) := (blk_cell BK114.out 1).trans rfl; have hcz15_2 : w14.cell? ⟨gb114, 2, none⟩ = some (.int .i64 0) := (blk_cell BK114.out 2).trans rfl; have hfz15_0 := blk_frozen BK114.out 0; have hfz15_1 := blk_frozen BK114.out 1; have hfz15_2 := blk_frozen BK114.out 2) | ((with_reducible refine gate_dst (N := 36) rfl ?_); (with_reducible refine gate_callee (f := 54) rfl ?_); refine goesL_ (some 36) rfl rfl Try.func54 (by kernel_rfl) rfl #[.string a0, .int .i64 t119, .int .i64 2] rfl (by (try simp only [List.map_toArray, List.map_cons, List.map_nil]); first | done | rfl | (simp only [List.length_drop, List.length_take]; rfl)) ?_; (with_reducible refine (wimpleref1_Num.calls k a0 t119 2 t121 t122 t123 _ A6.out).mono ?_); rintro e w' ⟨rfl, ⟨nd, rfl⟩⟩; refine ⟨_, rfl, ?_⟩; (try (rw [drewN_self w14]; generalize hq_ : World.drewN w14 _ = w14; have n0_ : Aside0 (w14.heap[gb114]? = some (.cells #[.string (⟨#[]⟩ : ByteArray), .int .i64 0, .int .i64 0] 40 (0, 0))) := ⟨by rw [← hq_]; exact (by (with_reducible repeat (first | refine blk_drewN ?_ _ | refine blk_drew ?_ | refine blk_alloc ?_ _)); exact BK114.out)⟩; have n1_ : Aside0 (Below w.heap.size w w14) := ⟨by rw [← hq_]; exact (by repeat (first | (with_reducible first | exact HB.out | apply below_alloc | apply pw_below_drewN | apply below_drew1 | refine below_set ?_ GE114.out) | exact HB.out))⟩; clear BK114 HB hq_; have BK114 := n0_; have HB := n1_; clear n0_ n1_)); (try clear hcz11_0 hcz11_1 hcz11_2 hfz11_0 hfz11_1 hfz11_2); (try clear hcz12_0 hcz12_1 hcz12_2 hfz12_0 hfz12_1 hfz12_2); have hcz16_0 : w14.cell? ⟨gb114, 0, none⟩ = some (.string (⟨#[]⟩ : ByteArray)) := (blk_cell BK114.out 0).trans rfl; have hcz16_1 : w14.cell? ⟨gb114, 1, none⟩ = some (.int .i64 0) := (blk_cell BK114.out 1).trans rfl; have hcz16_2 : w14.cell? ⟨gb114, 2, none⟩ = some (.int .i64 0) := (blk_cell BK114.out 2).trans rfl; have hfz16_0 := blk_frozen BK114.out 0; have hfz16_1 := blk_frozen BK114.out 1; have hfz16_2 := blk_frozen BK114.out 2))
        refine bodyPost_ret (results_ctt rfl _ _ gb114 40 #[.string t115, .int .i64 t118, .int .i64 t121] (0, 0) _ rfl (by (with_reducible repeat (first | refine blk_drewN ?_ _ | refine blk_drew ?_ | refine blk_alloc ?_ _)); refine blk_put (cs := #[.string t115, .int .i64 t118, .int .i64 0]) ?_ 2 _ rfl; (with_reducible repeat (first | refine blk_drewN ?_ _ | refine blk_drew ?_ | refine blk_alloc ?_ _)); refine blk_put (cs := #[.string t115, .int .i64 0, .int .i64 0]) ?_ 1 _ rfl; (with_reducible repeat (first | refine blk_drewN ?_ _ | refine blk_drew ?_ | refine blk_alloc ?_ _)); refine blk_put (cs := #[.string (⟨#[]⟩ : ByteArray), .int .i64 0, .int .i64 0]) ?_ 0 _ rfl; (with_reducible repeat (first | refine blk_drewN ?_ _ | refine blk_drew ?_ | refine blk_alloc ?_ _)); exact BK114.out) Try.underlying40 rfl (by kernel_rfl)) rfl ?_
        exact ⟨by first | rfl | (simp [errW_none, errW_some] <;> rfl) | (simp [*, errW_none, errW_some] <;> rfl), by repeat (first | (with_reducible first | exact HB.out | apply below_alloc | apply pw_below_drewN | apply below_drew1 | refine below_set ?_ GE114.out) | exact HB.out)⟩
    · rw [if_neg c7] at H
      have c7b0 : (t120 == 0) = false := beq_eq_false_iff_ne.mpr c7
      have c7b1 : (t120 != 0) = true := bne_iff_ne.mpr c7
      simp only [Option.some.injEq, Prod.mk.injEq] at H
      obtain ⟨rfl, rfl, rfl, rfl, rfl⟩ := H
      go_enter Try.func49, Try.ntmps49
      go_wp2_with (first | ((with_reducible refine gate_dst (N := 4) rfl ?_); refine box_event ?hg (N := 4) ?hd (cs := #[.string (⟨#[]⟩ : ByteArray), .int .i64 0, .int .i64 0]) (t := 40) ?hr ?_; (case hd => rfl); (case hg => rfl); (case hr => first | (go_simp; done) | (go_simp; rfl)); intro gb114 hg w17 hbox hb; have n0_ := Aside0.mk (below_step (by repeat (first | (with_reducible first | exact HB.out | apply below_alloc | apply pw_below_drewN | apply below_drew1) | exact HB.out)) hb); have n1_ := Aside0.mk (hbox); have n2_ := Aside0.mk ((by rw [hg]; exact (below_size (by repeat (first | (with_reducible first | exact HB.out | apply below_alloc | apply pw_below_drewN | apply below_drew1) | exact HB.out))) : w.heap.size ≤ gb114)); have n3_ := Aside0.mk ((by rw [hg]; exact (below_size (by repeat (first | (with_reducible first | exact HB.out | apply below_alloc | apply pw_below_drewN | apply below_drew1) | exact HB.out))) : w.heap.size ≤ gb114)); clear HB; have HB := n0_; have BK114 := n1_; have GW114 := n2_; have GE114 := n3_; clear n0_ n1_ n2_ n3_; clear hb hbox hg) | ((with_reducible refine gate_dst (N := 19) rfl ?_); (with_reducible refine gate_callee (f := 79) rfl ?_); refine goesL_ (some 19) rfl rfl Try.func79 (by kernel_rfl) rfl #[.string a0, .int .i64 a1] rfl (by (try simp only [List.map_toArray, List.map_cons, List.map_nil]); first | done | rfl | (simp only [List.length_drop, List.length_take]; rfl)) ?_; (with_reducible refine (wimpleref4_Name.calls k a0 a1 t115 t116 t117 _ A3.out).mono ?_); rintro e w18 ⟨rfl, hb⟩; refine ⟨_, rfl, ?_⟩; have n0_ := Aside0.mk (blk_below (g := gb114) (o := .cells #[.string (⟨#[]⟩ : ByteArray), .int .i64 0, .int .i64 0] 40 (0, 0)) (by (with_reducible repeat (first | refine blk_drewN ?_ _ | refine blk_drew ?_ | refine blk_alloc ?_ _)); exact BK114.out) hb); have n1_ := Aside0.mk (below_step (by repeat (first | (with_reducible first | exact HB.out | apply below_alloc | apply pw_below_drewN | apply below_drew1 | refine below_set ?_ GE114.out) | exact HB.out)) hb); clear BK114; clear HB; have BK114 := n0_; have HB := n1_; clear n0_ n1_; (try clear hb); (try clear hb2); (try clear hk); (try clear hi)) | ((with_reducible refine gate_dst (N := 29) rfl ?_); (with_reducible refine gate_callee (f := 54) rfl ?_); refine goesL_ (some 29) rfl rfl Try.func54 (by kernel_rfl) rfl #[.string a0, .int .i64 t116, .int .i64 2] rfl (by (try simp only [List.map_toArray, List.map_cons, List.map_nil]); first | done | rfl | (simp only [List.length_drop, List.length_take]; rfl)) ?_; (with_reducible refine (wimpleref1_Num.calls k a0 t116 2 t118 t119 t120 _ A5.out).mono ?_); rintro e w' ⟨rfl, ⟨nd, rfl⟩⟩; refine ⟨_, rfl, ?_⟩; (try (rw [drewN_self w18]; generalize hq_ : World.drewN w18 _ = w18; have n0_ : Aside0 (w18.heap[gb114]? = some (.cells #[.string (⟨#[]⟩ : ByteArray), .int .i64 0, .int .i64 0] 40 (0, 0))) := ⟨by rw [← hq_]; exact (by (with_reducible repeat (first | refine blk_drewN ?_ _ | refine blk_drew ?_ | refine blk_alloc ?_ _)); exact BK114.out)⟩; have n1_ : Aside0 (Below w.heap.size w w18) := ⟨by rw [← hq_]; exact (by repeat (first | (with_reducible first | exact HB.out | apply below_alloc | apply pw_below_drewN | apply below_drew1 | refine below_set ?_ GE114.out) | exact HB.out))⟩; clear BK114 HB hq_; have BK114 := n0_; have HB := n1_; clear n0_ n1_)); (try clear hcz11_0 hcz11_1 hcz11_2 hfz11_0 hfz11_1 hfz11_2); (try clear hcz12_0 hcz12_1 hcz12_2 hfz12_0 hfz12_1 hfz12_2); (try clear hcz15_0 hcz15_1 hcz15_2 hfz15_0 hfz15_1 hfz15_2); (try clear hcz16_0 hcz16_1 hcz16_2 hfz16_0 hfz16_1 hfz16_2); have hcz19_0 : w18.cell? ⟨gb114, 0, none⟩ = some (.string (⟨#[]⟩ : ByteArray)) := (blk_cell BK114.out 0).trans rfl; have hcz19_1 : w18.cell? ⟨gb114, 1, none⟩ = some (.int .i64 0) := (blk_cell BK114.out 1).trans rfl; have hcz19_2 : w18.cell? ⟨gb114, 2, none⟩ = some (.int .i64 0) := (blk_cell BK114.out 2).trans rfl; have hfz19_0 := blk_frozen BK114.out 0; have hfz19_1 := blk_frozen BK114.out 1; have hfz19_2 := blk_frozen BK114.out 2) | ((with_reducible refine gate_dst (N := 36) rfl ?_); (with_reducible refine gate_callee (f := 54) rfl ?_); refine goesL_ (some 36) rfl rfl Try.func54 (by kernel_rfl) rfl #[.string a0, .int .i64 t119, .int .i64 2] rfl (by (try simp only [List.map_toArray, List.map_cons, List.map_nil]); first | done | rfl | (simp only [List.length_drop, List.length_take]; rfl)) ?_; (with_reducible refine (wimpleref1_Num.calls k a0 t119 2 t121 t122 t123 _ A6.out).mono ?_); rintro e w' ⟨rfl, ⟨nd, rfl⟩⟩; refine ⟨_, rfl, ?_⟩; (try (rw [drewN_self w18]; generalize hq_ : World.drewN w18 _ = w18; have n0_ : Aside0 (w18.heap[gb114]? = some (.cells #[.string (⟨#[]⟩ : ByteArray), .int .i64 0, .int .i64 0] 40 (0, 0))) := ⟨by rw [← hq_]; exact (by (with_reducible repeat (first | refine blk_drewN ?_ _ | refine blk_drew ?_ | refine blk_alloc ?_ _)); exact BK114.out)⟩; have n1_ : Aside0 (Below w.heap.size w w18) := ⟨by rw [← hq_]; exact (by repeat (first | (with_reducible first | exact HB.out | apply below_alloc | apply pw_below_drewN | apply below_drew1 | refine below_set ?_ GE114.out) | exact HB.out))⟩; clear BK114 HB hq_; have BK114 := n0_; have HB := n1_; clear n0_ n1_)); (try clear hcz11_0 hcz11_1 hcz11_2 hfz11_0 hfz11_1 hfz11_2); (try clear hcz12_0 hcz12_1 hcz12_2 hfz12_0 hfz12_1 hfz12_2); (try clear hcz15_0 hcz15_1 hcz15_2 hfz15_0 hfz15_1 hfz15_2); (try clear hcz16_0 hcz16_1 hcz16_2 hfz16_0 hfz16_1 hfz16_2); have hcz20_0 : w18.cell? ⟨gb114, 0, none⟩ = some (.string (⟨#[]⟩ : ByteArray)) := (blk_cell BK114.out 0).trans rfl; have hcz20_1 : w18.cell? ⟨gb114, 1, none⟩ = some (.int .i64 0) := (blk_cell BK114.out 1).trans rfl; have hcz20_2 : w18.cell? ⟨gb114, 2, none⟩ = some (.int .i64 0) := (blk_cell BK114.out 2).trans rfl; have hfz20_0 := blk_frozen BK114.out 0; have hfz20_1 := blk_frozen BK114.out 1; have hfz20_2 := blk_frozen BK114.out 2))
      refine bodyPost_ret (results_ctt rfl _ _ gb114 40 #[.string t115, .int .i64 t118, .int .i64 t121] (0, 0) _ rfl (by (with_reducible repeat (first | refine blk_drewN ?_ _ | refine blk_drew ?_ | refine blk_alloc ?_ _)); refine blk_put (cs := #[.string t115, .int .i64 t118, .int .i64 0]) ?_ 2 _ rfl; (with_reducible repeat (first | refine blk_drewN ?_ _ | refine blk_drew ?_ | refine blk_alloc ?_ _)); refine blk_put (cs := #[.string t115, .int .i64 0, .int .i64 0]) ?_ 1 _ rfl; (with_reducible repeat (first | refine blk_drewN ?_ _ | refine blk_drew ?_ | refine blk_alloc ?_ _)); refine blk_put (cs := #[.string (⟨#[]⟩ : ByteArray), .int .i64 0, .int .i64 0]) ?_ 0 _ rfl; (with_reducible repeat (first | refine blk_drewN ?_ _ | refine blk_drew ?_ | refine blk_alloc ?_ _)); exact BK114.out) Try.underlying40 rfl (by kernel_rfl)) rfl ?_
      exact ⟨by first | rfl | (simp [errW_none, errW_some] <;> rfl) | (simp [*, errW_none, errW_some] <;> rfl), by repeat (first | (with_reducible first | exact HB.out | apply below_alloc | apply pw_below_drewN | apply below_drew1 | refine below_set ?_ GE114.out) | exact HB.out)⟩
  · rw [if_neg c4] at H
    have c4b0 : (t117 == 0) = false := beq_eq_false_iff_ne.mpr c4
    have c4b1 : (t117 != 0) = true := bne_iff_ne.mpr c4
    simp only [Option.some.injEq, Prod.mk.injEq] at H
    obtain ⟨rfl, rfl, rfl, rfl, rfl⟩ := H
    go_enter Try.func49, Try.ntmps49
    go_wp2_with (first | ((with_reducible refine gate_dst (N := 4) rfl ?_); refine box_event ?hg (N := 4) ?hd (cs := #[.string (⟨#[]⟩ : ByteArray), .int .i64 0, .int .i64 0]) (t := 40) ?hr ?_; (case hd => rfl); (case hg => rfl); (case hr => first | (go_simp; done) | (go_simp; rfl)); intro gb114 hg w21 hbox hb; have n0_ := Aside0.mk (below_step (by repeat (first | (with_reducible first | exact HB.out | apply below_alloc | apply pw_below_drewN | apply below_drew1) | exact HB.out)) hb); have n1_ := Aside0.mk (hbox); have n2_ := Aside0.mk ((by rw [hg]; exact (below_size (by repeat (first | (with_reducible first | exact HB.out | apply below_alloc | apply pw_below_drewN | apply below_drew1) | exact HB.out))) : w.heap.size ≤ gb114)); have n3_ := Aside0.mk ((by rw [hg]; exact (below_size (by repeat (first | (with_reducible first | exact HB.out | apply below_alloc | apply pw_below_drewN | apply below_drew1) | exact HB.out))) : w.heap.size ≤ gb114)); clear HB; have HB := n0_; have BK114 := n1_; have GW114 := n2_; have GE114 := n3_; clear n0_ n1_ n2_ n3_; clear hb hbox hg) | ((with_reducible refine gate_dst (N := 19) rfl ?_); (with_reducible refine gate_callee (f := 79) rfl ?_); refine goesL_ (some 19) rfl rfl Try.func79 (by kernel_rfl) rfl #[.string a0, .int .i64 a1] rfl (by (try simp only [List.map_toArray, List.map_cons, List.map_nil]); first | done | rfl | (simp only [List.length_drop, List.length_take]; rfl)) ?_; (with_reducible refine (wimpleref4_Name.calls k a0 a1 t115 t116 t117 _ A3.out).mono ?_); rintro e w22 ⟨rfl, hb⟩; refine ⟨_, rfl, ?_⟩; have n0_ := Aside0.mk (blk_below (g := gb114) (o := .cells #[.string (⟨#[]⟩ : ByteArray), .int .i64 0, .int .i64 0] 40 (0, 0)) (by (with_reducible repeat (first | refine blk_drewN ?_ _ | refine blk_drew ?_ | refine blk_alloc ?_ _)); exact BK114.out) hb); have n1_ := Aside0.mk (below_step (by repeat (first | (with_reducible first | exact HB.out | apply below_alloc | apply pw_below_drewN | apply below_drew1 | refine below_set ?_ GE114.out) | exact HB.out)) hb); clear BK114; clear HB; have BK114 := n0_; have HB := n1_; clear n0_ n1_; (try clear hb); (try clear hb2); (try clear hk); (try clear hi); (try clear hcz11_0 hcz11_1 hcz11_2 hfz11_0 hfz11_1 hfz11_2); (try clear hcz12_0 hcz12_1 hcz12_2 hfz12_0 hfz12_1 hfz12_2); (try clear hcz15_0 hcz15_1 hcz15_2 hfz15_0 hfz15_1 hfz15_2); (try clear hcz16_0 hcz16_1 hcz16_2 hfz16_0 hfz16_1 hfz16_2); (try clear hcz19_0 hcz19_1 hcz19_2 hfz19_0 hfz19_1 hfz19_2); (try clear hcz20_0 hcz20_1 hcz20_2 hfz20_0 hfz20_1 hfz20_2); have hcz23_0 : w22.cell? ⟨gb114, 0, none⟩ = some (.string (⟨#[]⟩ : ByteArray)) := (blk_cell BK114.out 0).trans rfl; have hcz23_1 : w22.cell? ⟨gb114, 1, none⟩ = some (.int .i64 0) := (blk_cell BK114.out 1).trans rfl; have hcz23_2 : w22.cell? ⟨gb114, 2, none⟩ = some (.int .i64 0) := (blk_cell BK114.out 2).trans rfl; have hfz23_0 := blk_frozen BK114.out 0; have hfz23_1 := blk_frozen BK114.out 1; have hfz23_2 := blk_frozen BK114.out 2))
    refine bodyPost_ret (results_ctt rfl _ _ gb114 40 #[.string (⟨#[]⟩ : ByteArray), .int .i64 0, .int .i64 0] (0, 0) _ rfl (by (with_reducible repeat (first | refine blk_drewN ?_ _ | refine blk_drew ?_ | refine blk_alloc ?_ _)); refine blk_put (cs := #[.string (⟨#[]⟩ : ByteArray), .int .i64 0, .int .i64 0]) ?_ 2 _ rfl; (with_reducible repeat (first | refine blk_drewN ?_ _ | refine blk_drew ?_ | refine blk_alloc ?_ _)); refine blk_put (cs := #[.string (⟨#[]⟩ : ByteArray), .int .i64 0, .int .i64 0]) ?_ 1 _ rfl; (with_reducible repeat (first | refine blk_drewN ?_ _ | refine blk_drew ?_ | refine blk_alloc ?_ _)); refine blk_put (cs := #[.string (⟨#[]⟩ : ByteArray), .int .i64 0, .int .i64 0]) ?_ 0 _ rfl; (with_reducible repeat (first | refine blk_drewN ?_ _ | refine blk_drew ?_ | refine blk_alloc ?_ _)); exact BK114.out) Try.underlying40 rfl (by kernel_rfl)) rfl ?_
    exact ⟨by first | rfl | (simp [errW_none, errW_some] <;> rfl) | (simp [*, errW_none, errW_some] <;> rfl), by repeat (first | (with_reducible first | exact HB.out | apply below_alloc | apply pw_below_drewN | apply below_drew1 | refine below_set ?_ GE114.out) | exact HB.out)⟩

/-! ### wimpleref4_record: function 50 -/
def wimpleref4_record.f (k : Nat) (a0 : ByteArray) (a1 : Int) : Option (ByteArray × Int × Int × Int × ByteArray × Int × Bool) := (wimpleref4_question.f k a0 a1).bind fun bt125 => (if bt125.2.2.2.2 = true then ((wimpleref1_Num.f k a0 bt125.2.2.2.1 4).bind fun bt131 => ((wimpleref1_Num.f k a0 bt131.2.1 2).bind fun bt134 => (if bt131.2.2 = 0 then (if bt134.2.2 = 0 then ((wimpleref4_Data.f k a0 bt134.2.1 bt134.1 bt125.2.1).bind fun bt137 => (some (bt125.1, bt125.2.1, bt125.2.2.1, bt131.1, bt137.1, wrap64 (bt134.2.1 + bt134.1), (bt137.2 == 0)))) else (some ((⟨#[]⟩ : ByteArray), 0, 0, 0, (⟨#[]⟩ : ByteArray), 0, false))) else (some ((⟨#[]⟩ : ByteArray), 0, 0, 0, (⟨#[]⟩ : ByteArray), 0, false))))) else (some ((⟨#[]⟩ : ByteArray), 0, 0, 0, (⟨#[]⟩ : ByteArray), 0, false)))
set_option maxHeartbeats 8000000 in
set_option maxRecDepth 100000 in
theorem wimpleref4_record.calls (k : Nat) (a0 : ByteArray) (a1 : Int) (r1 : ByteArray) (r2 : Int) (r3 : Int) (r4 : Int) (r5 : ByteArray) (r6 : Int) (r7 : Bool) (w : World) (h : wimpleref4_record.f k a0 a1 = some (r1, r2, r3, r4, r5, r6, r7)) :
    Calls Try.prog 50 #[.string a0, .int .i64 a1] w fun e w' => e = .returned (.tuple #[.agg #[.string r1, .int .i64 r2, .int .i64 r3, .int .i64 r4, .string r5], .int .i64 r6, .bool r7]) ∧ Below w.heap.size w w' := by
  have hu53 := Try.underlying53
  have hu40 := Try.underlying40
  have HB := Aside0.mk (Below.refl w.heap.size w)
  have H : ((wimpleref4_question.f k a0 a1).bind fun bt125 => (if bt125.2.2.2.2 = true then ((wimpleref1_Num.f k a0 bt125.2.2.2.1 4).bind fun bt131 => ((wimpleref1_Num.f k a0 bt131.2.1 2).bind fun bt134 => (if bt131.2.2 = 0 then (if bt134.2.2 = 0 then ((wimpleref4_Data.f k a0 bt134.2.1 bt134.1 bt125.2.1).bind fun bt137 => (some (bt125.1, bt125.2.1, bt125.2.2.1, bt131.1, bt137.1, wrap64 (bt134.2.1 + bt134.1), (bt137.2 == 0)))) else (some ((⟨#[]⟩ : ByteArray), 0, 0, 0, (⟨#[]⟩ : ByteArray), 0, false))) else (some ((⟨#[]⟩ : ByteArray), 0, 0, 0, (⟨#[]⟩ : ByteArray), 0, false))))) else (some ((⟨#[]⟩ : ByteArray), 0, 0, 0, (⟨#[]⟩ : ByteArray), 0, false)))) = some (r1, r2, r3, r4, r5, r6, r7) := h
  clear h
  replace H := Option.bind_eq_some_iff.mp H
  obtain ⟨⟨t125, t126, t127, t128, t129⟩, A30, H⟩ := H
  replace H : (if t129 = true then ((wimpleref1_Num.f k a0 t128 4).bind fun bt131 => ((wimpleref1_Num.f k a0 bt131.2.1 2).bind fun bt134 => (if bt131.2.2 = 0 then (if bt134.2.2 = 0 then ((wimpleref4_Data.f k a0 bt134.2.1 bt134.1 t126).bind fun bt137 => (some (t125, t126, t127, bt131.1, bt137.1, wrap64 (bt134.2.1 + bt134.1), (bt137.2 == 0)))) else (some ((⟨#[]⟩ : ByteArray), 0, 0, 0, (⟨#[]⟩ : ByteArray), 0, false))) else (some ((⟨#[]⟩ : ByteArray), 0, 0, 0, (⟨#[]⟩ : ByteArray), 0, false))))) else (some ((⟨#[]⟩ : ByteArray), 0, 0, 0, (⟨#[]⟩ : ByteArray), 0, false))) = some (r1, r2, r3, r4, r5, r6, r7) := H
  have A3 := Aside0.mk A30
  clear A30
  by_cases c4 : t129 = true
  · subst c4
    have H1 : ((wimpleref1_Num.f k a0 t128 4).bind fun bt131 => ((wimpleref1_Num.f k a0 bt131.2.1 2).bind fun bt134 => (if bt131.2.2 = 0 then (if bt134.2.2 = 0 then ((wimpleref4_Data.f k a0 bt134.2.1 bt134.1 t126).bind fun bt137 => (some (t125, t126, t127, bt131.1, bt137.1, wrap64 (bt134.2.1 + bt134.1), (bt137.2 == 0)))) else (some ((⟨#[]⟩ : ByteArray), 0, 0, 0, (⟨#[]⟩ : ByteArray), 0, false))) else (some ((⟨#[]⟩ : ByteArray), 0, 0, 0, (⟨#[]⟩ : ByteArray), 0, false))))) = some (r1, r2, r3, r4, r5, r6, r7) := by rw [if_pos rfl] at H; exact H
    clear H
    have H := H1
    clear H1
    replace H := Option.bind_eq_some_iff.mp H
    obtain ⟨⟨t131, t132, t133⟩, A50, H⟩ := H
    replace H : ((wimpleref1_Num.f k a0 t132 2).bind fun bt134 => (if t133 = 0 then (if bt134.2.2 = 0 then ((wimpleref4_Data.f k a0 bt134.2.1 bt134.1 t126).bind fun bt137 => (some (t125, t126, t127, t131, bt137.1, wrap64 (bt134.2.1 + bt134.1), (bt137.2 == 0)))) else (some ((⟨#[]⟩ : ByteArray), 0, 0, 0, (⟨#[]⟩ : ByteArray), 0, false))) else (some ((⟨#[]⟩ : ByteArray), 0, 0, 0, (⟨#[]⟩ : ByteArray), 0, false)))) = some (r1, r2, r3, r4, r5, r6, r7) := H
    have A5 := Aside0.mk A50
    clear A50
    replace H := Option.bind_eq_some_iff.mp H
    obtain ⟨⟨t134, t135, t136⟩, A60, H⟩ := H
    replace H : (if t133 = 0 then (if t136 = 0 then ((wimpleref4_Data.f k a0 t135 t134 t126).bind fun bt137 => (some (t125, t126, t127, t131, bt137.1, wrap64 (t135 + t134), (bt137.2 == 0)))) else (some ((⟨#[]⟩ : ByteArray), 0, 0, 0, (⟨#[]⟩ : ByteArray), 0, false))) else (some ((⟨#[]⟩ : ByteArray), 0, 0, 0, (⟨#[]⟩ : ByteArray), 0, false))) = some (r1, r2, r3, r4, r5, r6, r7) := H
    have A6 := Aside0.mk A60
    clear A60
    by_cases c7 : t133 = 0
    · rw [if_pos c7] at H
      have c7b0 : (t133 == 0) = true := beq_iff_eq.mpr c7
      have c7b1 : (t133 != 0) = false := bne_eq_false_iff_eq.mpr c7
      clear c7
      by_cases c8 : t136 = 0
      · rw [if_pos c8] at H
        have c8b0 : (t136 == 0) = true := beq_iff_eq.mpr c8
        have c8b1 : (t136 != 0) = false := bne_eq_false_iff_eq.mpr c8
        clear c8
        replace H := Option.bind_eq_some_iff.mp H
        obtain ⟨⟨t137, t138⟩, A90, H⟩ := H
        replace H : (some (t125, t126, t127, t131, t137, wrap64 (t135 + t134), (t138 == 0))) = some (r1, r2, r3, r4, r5, r6, r7) := H
        have A9 := Aside0.mk A90
        clear A90
        simp only [Option.some.injEq, Prod.mk.injEq] at H
        obtain ⟨rfl, rfl, rfl, rfl, rfl, rfl, rfl⟩ := H
        go_enter Try.func50, Try.ntmps50
        go_wp2_with (first | ((with_reducible refine gate_dst (N := 4) rfl ?_); refine box_event ?hg (N := 4) ?hd (cs := #[.string (⟨#[]⟩ : ByteArray), .int .i64 0, .int .i64 0, .int .i64 0, .string (⟨#[]⟩ : ByteArray)]) (t := 53) ?hr ?_; (case hd => rfl); (case hg => rfl); (case hr => first | (go_simp; done) | (go_simp; rfl)); intro gb124 hg w10 hbox hb; have n0_ := Aside0.mk (below_step (by repeat (first | (with_reducible first | exact HB.out | apply below_alloc | apply pw_below_drewN | apply below_drew1) | exact HB.out)) hb); have n1_ := Aside0.mk (hbox); have n2_ := Aside0.mk ((by rw [hg]; exact (below_size (by repeat (first | (with_reducible first | exact HB.out | apply below_alloc | apply pw_below_drewN | apply below_drew1) | exact HB.out))) : w.heap.size ≤ gb124)); have n3_ := Aside0.mk ((by rw [hg]; exact (below_size (by repeat (first | (with_reducible first | exact HB.out | apply below_alloc | apply pw_below_drewN | apply below_drew1) | exact HB.out))) : w.heap.size ≤ gb124)); clear HB; have HB := n0_; have BK124 := n1_; have GW124 := n2_; have GE124 := n3_; clear n0_ n1_ n2_ n3_; clear hb hbox hg) | ((with_reducible refine gate_dst (N := 21) rfl ?_); (with_reducible refine gate_callee (f := 49) rfl ?_); refine goesL_ (some 21) rfl rfl Try.func49 (by kernel_rfl) rfl #[.string a0, .int .i64 a1] rfl (by (try simp only [List.map_toArray, List.map_cons, List.map_nil]); first | done | rfl | (simp only [List.length_drop, List.length_take]; rfl)) ?_; (with_reducible refine (wimpleref4_question.calls k a0 a1 t125 t126 t127 t128 true _ A3.out).mono ?_); rintro e w11 ⟨rfl, hb⟩; refine ⟨_, rfl, ?_⟩; have n0_ := Aside0.mk (blk_below (g := gb124) (o := .cells #[.string (⟨#[]⟩ : ByteArray), .int .i64 0, .int .i64 0, .int .i64 0, .string (⟨#[]⟩ : ByteArray)] 53 (0, 0)) (by (with_reducible repeat (first | refine blk_drewN ?_ _ | refine blk_drew ?_ | refine blk_alloc ?_ _)); exact BK124.out) hb); have n1_ := Aside0.mk (below_step (by repeat (first | (with_reducible first | exact HB.out | apply below_alloc | apply pw_below_drewN | apply below_drew1 | refine below_set ?_ GE124.out) | exact HB.out)) hb); clear BK124; clear HB; have BK124 := n0_; have HB := n1_; clear n0_ n1_; (try clear hb); (try clear hb2); (try clear hk); (try clear hi)) | ((with_reducible refine gate_dst (N := 7) rfl ?_); refine box_event ?hg (N := 7) ?hd (cs := #[.string (⟨#[]⟩ : ByteArray), .int .i64 0, .int .i64 0]) (t := 40) ?hr ?_; (case hd => rfl); (case hg => rfl); (case hr => first | (go_simp; done) | (go_simp; rfl)); intro gb130 hg w12 hbox hb; have n0_ := Aside0.mk (blk_below (g := gb124) (o := .cells #[.string (⟨#[]⟩ : ByteArray), .int .i64 0, .int .i64 0, .int .i64 0, .string (⟨#[]⟩ : ByteArray)] 53 (0, 0)) (by (with_reducible repeat (first | refine blk_drewN ?_ _ | refine blk_drew ?_ | refine blk_alloc ?_ _)); exact BK124.out) hb); have n1_ := Aside0.mk (below_step (by repeat (first | (with_reducible first | exact HB.out | apply below_alloc | apply pw_below_drewN | apply below_drew1 | refine below_set ?_ GE124.out) | exact HB.out)) hb); have n2_ := Aside0.mk (hbox); have n3_ := Aside0.mk ((by rw [hg]; exact (below_size (by repeat (first | (with_reducible first | exact HB.out | apply below_alloc | apply pw_below_drewN | apply below_drew1 | refine below_set ?_ GE124.out) | exact HB.out))) : w.heap.size ≤ gb130)); have n4_ := Aside0.mk ((by rw [hg]; exact (below_size (by repeat (first | (with_reducible first | exact HB.out | apply below_alloc | apply pw_below_drewN | apply below_drew1 | refine below_set ?_ GE124.out) | exact HB.out))) : w.heap.size ≤ gb130)); have n5_ := Aside0.mk ((by rw [hg]; exact Nat.ne_of_lt (blk_lt (g := gb124) (o := .cells #[.string (⟨#[]⟩ : ByteArray), .int .i64 0, .int .i64 0, .int .i64 0, .string (⟨#[]⟩ : ByteArray)] 53 (0, 0)) (by (with_reducible repeat (first | refine blk_drewN ?_ _ | refine blk_drew ?_ | refine blk_alloc ?_ _)); exact BK124.out)) : gb124 ≠ gb130)); have n6_ := Aside0.mk ((by rw [hg]; exact Nat.ne_of_gt (blk_lt (g := gb124) (o := .cells #[.string (⟨#[]⟩ : ByteArray), .int .i64 0, .int .i64 0, .int .i64 0, .string (⟨#[]⟩ : ByteArray)] 53 (0, 0)) (by (with_reducible repeat (first | refine blk_drewN ?_ _ | refine blk_drew ?_ | refine blk_alloc ?_ _)); exact BK124.out)) : gb130 ≠ gb124)); clear BK124; clear HB; have BK124 := n0_; have HB := n1_; have BK130 := n2_; have GW130 := n3_; have GE130 := n4_; have NB124_130 := n5_; have NB130_124 := n6_; clear n0_ n1_ n2_ n3_ n4_ n5_ n6_; clear hb hbox hg; have hnb13 := NB130_124.out; have hnc13 := NB124_130.out; (try clear hcz12_0 hcz12_1 hcz12_2 hfz12_0 hfz12_1 hfz12_2); (try clear hcz15_0 hcz15_1 hcz15_2 hfz15_0 hfz15_1 hfz15_2); (try clear hcz16_0 hcz16_1 hcz16_2 hfz16_0 hfz16_1 hfz16_2); (try clear hcz19_0 hcz19_1 hcz19_2 hfz19_0 hfz19_1 hfz19_2); (try clear hcz20_0 hcz20_1 hcz20_2 hfz20_0 hfz20_1 hfz20_2); (try clear hcz23_0 hcz23_1 hcz23_2 hfz23_0 hfz23_1 hfz23_2); have hcz14_0 : w12.cell? ⟨gb130, 0, none⟩ = some (.string (⟨#[]⟩ : ByteArray)) := (blk_cell BK130.out 0).trans rfl; have hcz14_1 : w12.cell? ⟨gb130, 1, none⟩ = some (.int .i64 0) := (blk_cell BK130.out 1).trans rfl; have hcz14_2 : w12.cell? ⟨gb130, 2, none⟩ = some (.int .i64 0) := (blk_cell BK130.out 2).trans rfl; have hfz14_0 := blk_frozen BK130.out 0; have hfz14_1 := blk_frozen BK130.out 1; have hfz14_2 := blk_frozen BK130.out 2) | ((with_reducible refine gate_dst (N := 31) rfl ?_); (with_reducible refine gate_callee (f := 54) rfl ?_); refine goesL_ (some 31) rfl rfl Try.func54 (by kernel_rfl) rfl #[.string a0, .int .i64 t128, .int .i64 4] rfl (by (try simp only [List.map_toArray, List.map_cons, List.map_nil]); first | done | rfl | (simp only [List.length_drop, List.length_take]; rfl)) ?_; (with_reducible refine (wimpleref1_Num.calls k a0 t128 4 t131 t132 t133 _ A5.out).mono ?_); rintro e w' ⟨rfl, ⟨nd, rfl⟩⟩; refine ⟨_, rfl, ?_⟩) | ((with_reducible refine gate_dst (N := 38) rfl ?_); (with_reducible refine gate_callee (f := 54) rfl ?_); refine goesL_ (some 38) rfl rfl Try.func54 (by kernel_rfl) rfl #[.string a0, .int .i64 t132, .int .i64 2] rfl (by (try simp only [List.map_toArray, List.map_cons, List.map_nil]); first | done | rfl | (simp only [List.length_drop, List.length_take]; rfl)) ?_; (with_reducible refine (wimpleref1_Num.calls k a0 t132 2 t134 t135 t136 _ A6.out).mono ?_); rintro e w' ⟨rfl, ⟨nd, rfl⟩⟩; refine ⟨_, rfl, ?_⟩) | ((with_reducible refine gate_dst (N := 55) rfl ?_); (with_reducible refine gate_callee (f := 80) rfl ?_); refine goesL_ (some 55) rfl rfl Try.func80 (by kernel_rfl) rfl #[.string a0, .int .i64 t135, .int .i64 t134, .int .i64 t126] rfl (by (try simp only [List.map_toArray, List.map_cons, List.map_nil]); first | done | rfl | (simp only [List.length_drop, List.length_take]; rfl)) ?_; (with_reducible refine (wimpleref4_Data.calls k a0 t135 t134 t126 t137 t138 _ A9.out).mono ?_); rintro e w15 ⟨rfl, hb⟩; refine ⟨_, rfl, ?_⟩; have n0_ := Aside0.mk (blk_below (g := gb124) (o := .cells #[.string (⟨#[]⟩ : ByteArray), .int .i64 0, .int .i64 0, .int .i64 0, .string (⟨#[]⟩ : ByteArray)] 53 (0, 0)) (by (with_reducible repeat (first | refine blk_drewN ?_ _ | refine blk_drew ?_ | refine blk_alloc ?_ _)); refine blk_far ?_ NB124_130.out _; (with_reducible repeat (first | refine blk_drewN ?_ _ | refine blk_drew ?_ | refine blk_alloc ?_ _)); refine blk_far ?_ NB124_130.out _; (with_reducible repeat (first | refine blk_drewN ?_ _ | refine blk_drew ?_ | refine blk_alloc ?_ _)); refine blk_far ?_ NB124_130.out _; (with_reducible repeat (first | refine blk_drewN ?_ _ | refine blk_drew ?_ | refine blk_alloc ?_ _)); exact BK124.out) hb); have n1_ := Aside0.mk (blk_below (g := gb130) (o := .cells #[.string t125, .int .i64 t126, .int .i64 t127] 40 (0, 0)) (by (with_reducible repeat (first | refine blk_drewN ?_ _ | refine blk_drew ?_ | refine blk_alloc ?_ _)); refine blk_put (cs := #[.string t125, .int .i64 t126, .int .i64 0]) ?_ 2 _ rfl; (with_reducible repeat (first | refine blk_drewN ?_ _ | refine blk_drew ?_ | refine blk_alloc ?_ _)); refine blk_put (cs := #[.string t125, .int .i64 0, .int .i64 0]) ?_ 1 _ rfl; (with_reducible repeat (first | refine blk_drewN ?_ _ | refine blk_drew ?_ | refine blk_alloc ?_ _)); refine blk_put (cs := #[.string (⟨#[]⟩ : ByteArray), .int .i64 0, .int .i64 0]) ?_ 0 _ rfl; (with_reducible repeat (first | refine blk_drewN ?_ _ | refine blk_drew ?_ | refine blk_alloc ?_ _)); exact BK130.out) hb); have n2_ := Aside0.mk (below_step (by repeat (first | (with_reducible first | exact HB.out | apply below_alloc | apply pw_below_drewN | apply below_drew1 | refine below_set ?_ GE124.out | refine below_set ?_ GE130.out) | exact HB.out)) hb); clear BK124; clear BK130; clear HB; have BK124 := n0_; have BK130 := n1_; have HB := n2_; clear n0_ n1_ n2_; (try clear hb); (try clear hb2); (try clear hk); (try clear hi); (try clear hcz12_0 hcz12_1 hcz12_2 hfz12_0 hfz12_1 hfz12_2); (try clear hcz15_0 hcz15_1 hcz15_2 hfz15_0 hfz15_1 hfz15_2); (try clear hcz19_0 hcz19_1 hcz19_2 hfz19_0 hfz19_1 hfz19_2); (try clear hcz20_0 hcz20_1 hcz20_2 hfz20_0 hfz20_1 hfz20_2); (try clear hcz23_0 hcz23_1 hcz23_2 hfz23_0 hfz23_1 hfz23_2); (try clear hcz14_0 hcz14_1 hcz14_2 hfz14_0 hfz14_1 hfz14_2); have hcz16_0 : w15.cell? ⟨gb130, 0, none⟩ = some (.string t125) := (blk_cell BK130.out 0).trans rfl; have hcz16_1 : w15.cell? ⟨gb130, 1, none⟩ = some (.int .i64 t126) := (blk_cell BK130.out 1).trans rfl; have hcz16_2 : w15.cell? ⟨gb130, 2, none⟩ = some (.int .i64 t127) := (blk_cell BK130.out 2).trans rfl; have hfz16_0 := blk_frozen BK130.out 0; have hfz16_1 := blk_frozen BK130.out 1; have hfz16_2 := blk_frozen BK130.out 2; (try clear hcz15_0 hcz15_1 hcz15_2 hfz15_0 hfz15_1 hfz15_2); (try clear hcz19_0 hcz19_1 hcz19_2 hfz19_0 hfz19_1 hfz19_2); (try clear hcz20_0 hcz20_1 hcz20_2 hfz20_0 hfz20_1 hfz20_2); (try clear hcz23_0 hcz23_1 hcz23_2 hfz23_0 hfz23_1 hfz23_2); (try clear hcz14_0 hcz14_1 hcz14_2 hfz14_0 hfz14_1 hfz14_2); have hcz17_0 : w15.cell? ⟨gb124, 0, none⟩ = some (.string (⟨#[]⟩ : ByteArray)) := (blk_cell BK124.out 0).trans rfl; have hcz17_1 : w15.cell? ⟨gb124, 1, none⟩ = some (.int .i64 0) := (blk_cell BK124.out 1).trans rfl; have hcz17_2 : w15.cell? ⟨gb124, 2, none⟩ = some (.int .i64 0) := (blk_cell BK124.out 2).trans rfl; have hcz17_3 : w15.cell? ⟨gb124, 3, none⟩ = some (.int .i64 0) := (blk_cell BK124.out 3).trans rfl; have hcz17_4 : w15.cell? ⟨gb124, 4, none⟩ = some (.string (⟨#[]⟩ : ByteArray)) := (blk_cell BK124.out 4).trans rfl; have hfz17_0 := blk_frozen BK124.out 0; have hfz17_1 := blk_frozen BK124.out 1; have hfz17_2 := blk_frozen BK124.out 2; have hfz17_3 := blk_frozen BK124.out 3; have hfz17_4 := blk_frozen BK124.out 4))
        refine bodyPost_ret (results_ctt rfl _ _ gb124 53 #[.string t125, .int .i64 t126, .int .i64 t127, .int .i64 t131, .string t137] (0, 0) _ rfl (by (with_reducible repeat (first | refine blk_drewN ?_ _ | refine blk_drew ?_ | refine blk_alloc ?_ _)); refine blk_put (cs := #[.string t125, .int .i64 t126, .int .i64 t127, .int .i64 t131, .string (⟨#[]⟩ : ByteArray)]) ?_ 4 _ rfl; (with_reducible repeat (first | refine blk_drewN ?_ _ | refine blk_drew ?_ | refine blk_alloc ?_ _)); refine blk_put (cs := #[.string t125, .int .i64 t126, .int .i64 t127, .int .i64 0, .string (⟨#[]⟩ : ByteArray)]) ?_ 3 _ rfl; (with_reducible repeat (first | refine blk_drewN ?_ _ | refine blk_drew ?_ | refine blk_alloc ?_ _)); refine blk_put (cs := #[.string t125, .int .i64 t126, .int .i64 0, .int .i64 0, .string (⟨#[]⟩ : ByteArray)]) ?_ 2 _ rfl; (with_reducible repeat (first | refine blk_drewN ?_ _ | refine blk_drew ?_ | refine blk_alloc ?_ _)); refine blk_put (cs := #[.string t125, .int .i64 0, .int .i64 0, .int .i64 0, .string (⟨#[]⟩ : ByteArray)]) ?_ 1 _ rfl; (with_reducible repeat (first | refine blk_drewN ?_ _ | refine blk_drew ?_ | refine blk_alloc ?_ _)); refine blk_put (cs := #[.string (⟨#[]⟩ : ByteArray), .int .i64 0, .int .i64 0, .int .i64 0, .string (⟨#[]⟩ : ByteArray)]) ?_ 0 _ rfl; (with_reducible repeat (first | refine blk_drewN ?_ _ | refine blk_drew ?_ | refine blk_alloc ?_ _)); exact BK124.out) Try.underlying53 rfl (by kernel_rfl)) rfl ?_
        exact ⟨by first | rfl | (simp [errW_none, errW_some] <;> rfl) | (simp [*, errW_none, errW_some] <;> rfl), by repeat (first | (with_reducible first | exact HB.out | apply below_alloc | apply pw_below_drewN | apply below_drew1 | refine below_set ?_ GE124.out | refine below_set ?_ GE130.out) | exact HB.out)⟩
      · rw [if_neg c8] at H
        have c8b0 : (t136 == 0) = false := beq_eq_false_iff_ne.mpr c8
        have c8b1 : (t136 != 0) = true := bne_iff_ne.mpr c8
        simp only [Option.some.injEq, Prod.mk.injEq] at H
        obtain ⟨rfl, rfl, rfl, rfl, rfl, rfl, rfl⟩ := H
        go_enter Try.func50, Try.ntmps50
        go_wp2_with (first | ((with_reducible refine gate_dst (N := 4) rfl ?_); refine box_event ?hg (N := 4) ?hd (cs := #[.string (⟨#[]⟩ : ByteArray), .int .i64 0, .int .i64 0, .int .i64 0, .string (⟨#[]⟩ : ByteArray)]) (t := 53) ?hr ?_; (case hd => rfl); (case hg => rfl); (case hr => first | (go_simp; done) | (go_simp; rfl)); intro gb124 hg w18 hbox hb; have n0_ := Aside0.mk (below_step (by repeat (first | (with_reducible first | exact HB.out | apply below_alloc | apply pw_below_drewN | apply below_drew1) | exact HB.out)) hb); have n1_ := Aside0.mk (hbox); have n2_ := Aside0.mk ((by rw [hg]; exact (below_size (by repeat (first | (with_reducible first | exact HB.out | apply below_alloc | apply pw_below_drewN | apply below_drew1) | exact HB.out))) : w.heap.size ≤ gb124)); have n3_ := Aside0.mk ((by rw [hg]; exact (below_size (by repeat (first | (with_reducible first | exact HB.out | apply below_alloc | apply pw_below_drewN | apply below_drew1) | exact HB.out))) : w.heap.size ≤ gb124)); clear HB; have HB := n0_; have BK124 := n1_; have GW124 := n2_; have GE124 := n3_; clear n0_ n1_ n2_ n3_; clear hb hbox hg) | ((with_reducible refine gate_dst (N := 21) rfl ?_); (with_reducible refine gate_callee (f := 49) rfl ?_); refine goesL_ (some 21) rfl rfl Try.func49 (by kernel_rfl) rfl #[.string a0, .int .i64 a1] rfl (by (try simp only [List.map_toArray, List.map_cons, List.map_nil]); first | done | rfl | (simp only [List.length_drop, List.length_take]; rfl)) ?_; (with_reducible refine (wimpleref4_question.calls k a0 a1 t125 t126 t127 t128 true _ A3.out).mono ?_); rintro e w19 ⟨rfl, hb⟩; refine ⟨_, rfl, ?_⟩; have n0_ := Aside0.mk (blk_below (g := gb124) (o := .cells #[.string (⟨#[]⟩ : ByteArray), .int .i64 0, .int .i64 0, .int .i64 0, .string (⟨#[]⟩ : ByteArray)] 53 (0, 0)) (by (with_reducible repeat (first | refine blk_drewN ?_ _ | refine blk_drew ?_ | refine blk_alloc ?_ _)); exact BK124.out) hb); have n1_ := Aside0.mk (below_step (by repeat (first | (with_reducible first | exact HB.out | apply below_alloc | apply pw_below_drewN | apply below_drew1 | refine below_set ?_ GE124.out) | exact HB.out)) hb); clear BK124; clear HB; have BK124 := n0_; have HB := n1_; clear n0_ n1_; (try clear hb); (try clear hb2); (try clear hk); (try clear hi)) | ((with_reducible refine gate_dst (N := 7) rfl ?_); refine box_event ?hg (N := 7) ?hd (cs := #[.string (⟨#[]⟩ : ByteArray), .int .i64 0, .int .i64 0]) (t := 40) ?hr ?_; (case hd => rfl); (case hg => rfl); (case hr => first | (go_simp; done) | (go_simp; rfl)); intro gb130 hg w20 hbox hb; have n0_ := Aside0.mk (blk_below (g := gb124) (o := .cells #[.string (⟨#[]⟩ : ByteArray), .int .i64 0, .int .i64 0, .int .i64 0, .string (⟨#[]⟩ : ByteArray)] 53 (0, 0)) (by (with_reducible repeat (first | refine blk_drewN ?_ _ | refine blk_drew ?_ | refine blk_alloc ?_ _)); exact BK124.out) hb); have n1_ := Aside0.mk (below_step (by repeat (first | (with_reducible first | exact HB.out | apply below_alloc | apply pw_below_drewN | apply below_drew1 | refine below_set ?_ GE124.out) | exact HB.out)) hb); have n2_ := Aside0.mk (hbox); have n3_ := Aside0.mk ((by rw [hg]; exact (below_size (by repeat (first | (with_reducible first | exact HB.out | apply below_alloc | apply pw_below_drewN | apply below_drew1 | refine below_set ?_ GE124.out) | exact HB.out))) : w.heap.size ≤ gb130)); have n4_ := Aside0.mk ((by rw [hg]; exact (below_size (by repeat (first | (with_reducible first | exact HB.out | apply below_alloc | apply pw_below_drewN | apply below_drew1 | refine below_set ?_ GE124.out) | exact HB.out))) : w.heap.size ≤ gb130)); have n5_ := Aside0.mk ((by rw [hg]; exact Nat.ne_of_lt (blk_lt (g := gb124) (o := .cells #[.string (⟨#[]⟩ : ByteArray), .int .i64 0, .int .i64 0, .int .i64 0, .string (⟨#[]⟩ : ByteArray)] 53 (0, 0)) (by (with_reducible repeat (first | refine blk_drewN ?_ _ | refine blk_drew ?_ | refine blk_alloc ?_ _)); exact BK124.out)) : gb124 ≠ gb130)); have n6_ := Aside0.mk ((by rw [hg]; exact Nat.ne_of_gt (blk_lt (g := gb124) (o := .cells #[.string (⟨#[]⟩ : ByteArray), .int .i64 0, .int .i64 0, .int .i64 0, .string (⟨#[]⟩ : ByteArray)] 53 (0, 0)) (by (with_reducible repeat (first | refine blk_drewN ?_ _ | refine blk_drew ?_ | refine blk_alloc ?_ _)); exact BK124.out)) : gb130 ≠ gb124)); clear BK124; clear HB; have BK124 := n0_; have HB := n1_; have BK130 := n2_; have GW130 := n3_; have GE130 := n4_; have NB124_130 := n5_; have NB130_124 := n6_; clear n0_ n1_ n2_ n3_ n4_ n5_ n6_; clear hb hbox hg; have hnb21 := NB130_124.out; have hnc21 := NB124_130.out; (try clear hcz19_0 hcz19_1 hcz19_2 hfz19_0 hfz19_1 hfz19_2); (try clear hcz20_0 hcz20_1 hcz20_2 hfz20_0 hfz20_1 hfz20_2); (try clear hcz23_0 hcz23_1 hcz23_2 hfz23_0 hfz23_1 hfz23_2); (try clear hcz14_0 hcz14_1 hcz14_2 hfz14_0 hfz14_1 hfz14_2); (try clear hcz16_0 hcz16_1 hcz16_2 hfz16_0 hfz16_1 hfz16_2); (try clear hcz17_0 hcz17_1 hcz17_2 hcz17_3 hcz17_4 hfz17_0 hfz17_1 hfz17_2 hfz17_3 hfz17_4); have hcz22_0 : w20.cell? ⟨gb130, 0, none⟩ = some (.string (⟨#[]⟩ : ByteArray)) := (blk_cell BK130.out 0).trans rfl; have hcz22_1 : w20.cell? ⟨gb130, 1, none⟩ = some (.int .i64 0) := (blk_cell BK130.out 1).trans rfl; have hcz22_2 : w20.cell? ⟨gb130, 2, none⟩ = some (.int .i64 0) := (blk_cell BK130.out 2).trans rfl; have hfz22_0 := blk_frozen BK130.out 0; have hfz22_1 := blk_frozen BK130.out 1; have hfz22_2 := blk_frozen BK130.out 2) | ((with_reducible refine gate_dst (N := 31) rfl ?_); (with_reducible refine gate_callee (f := 54) rfl ?_); refine goesL_ (some 31) rfl rfl Try.func54 (by kernel_rfl) rfl #[.string a0, .int .i64 t128, .int .i64 4] rfl (by (try simp only [List.map_toArray, List.map_cons, List.map_nil]); first | done | rfl | (simp only [List.length_drop, List.length_take]; rfl)) ?_; (with_reducible refine (wimpleref1_Num.calls k a0 t128 4 t131 t132 t133 _ A5.out).mono ?_); rintro e w' ⟨rfl, ⟨nd, rfl⟩⟩; refine ⟨_, rfl, ?_⟩) | ((with_reducible refine gate_dst (N := 38) rfl ?_); (with_reducible refine gate_callee (f := 54) rfl ?_); refine goesL_ (some 38) rfl rfl Try.func54 (by kernel_rfl) rfl #[.string a0, .int .i64 t132, .int .i64 2] rfl (by (try simp only [List.map_toArray, List.map_cons, List.map_nil]); first | done | rfl | (simp only [List.length_drop, List.length_take]; rfl)) ?_; (with_reducible refine (wimpleref1_Num.calls k a0 t132 2 t134 t135 t136 _ A6.out).mono ?_); rintro e w' ⟨rfl, ⟨nd, rfl⟩⟩; refine ⟨_, rfl, ?_⟩; (try clear hcz19_0 hcz19_1 hcz19_2 hfz19_0 hfz19_1 hfz19_2); (try clear hcz20_0 hcz20_1 hcz20_2 hfz20_0 hfz20_1 hfz20_2); (try clear hcz14_0 hcz14_1 hcz14_2 hfz14_0 hfz14_1 hfz14_2); (try clear hcz16_0 hcz16_1 hcz16_2 hfz16_0 hfz16_1 hfz16_2); (try clear hcz17_0 hcz17_1 hcz17_2 hcz17_3 hcz17_4 hfz17_0 hfz17_1 hfz17_2 hfz17_3 hfz17_4); have hcz23_0 : w20.cell? ⟨gb124, 0, none⟩ = some (.string (⟨#[]⟩ : ByteArray)) := (blk_cell BK124.out 0).trans rfl; have hcz23_1 : w20.cell? ⟨gb124, 1, none⟩ = some (.int .i64 0) := (blk_cell BK124.out 1).trans rfl; have hcz23_2 : w20.cell? ⟨gb124, 2, none⟩ = some (.int .i64 0) := (blk_cell BK124.out 2).trans rfl; have hcz23_3 : w20.cell? ⟨gb124, 3, none⟩ = some (.int .i64 0) := (blk_cell BK124.out 3).trans rfl; have hcz23_4 : w20.cell? ⟨gb124, 4, none⟩ = some (.string (⟨#[]⟩ : ByteArray)) := (blk_cell BK124.out 4).trans rfl; have hfz23_0 := blk_frozen BK124.out 0; have hfz23_1 := blk_frozen BK124.out 1; have hfz23_2 := blk_frozen BK124.out 2; have hfz23_3 := blk_frozen BK124.out 3; have hfz23_4 := blk_frozen BK124.out 4))
        refine bodyPost_ret (results_ctt rfl _ _ gb124 53 #[.string (⟨#[]⟩ : ByteArray), .int .i64 0, .int .i64 0, .int .i64 0, .string (⟨#[]⟩ : ByteArray)] (0, 0) _ rfl (by (with_reducible repeat (first | refine blk_drewN ?_ _ | refine blk_drew ?_ | refine blk_alloc ?_ _)); refine blk_put (cs := #[.string (⟨#[]⟩ : ByteArray), .int .i64 0, .int .i64 0, .int .i64 0, .string (⟨#[]⟩ : ByteArray)]) ?_ 4 _ rfl; (with_reducible repeat (first | refine blk_drewN ?_ _ | refine blk_drew ?_ | refine blk_alloc ?_ _)); refine blk_put (cs := #[.string (⟨#[]⟩ : ByteArray), .int .i64 0, .int .i64 0, .int .i64 0, .string (⟨#[]⟩ : ByteArray)]) ?_ 3 _ rfl; (with_reducible repeat (first | refine blk_drewN ?_ _ | refine blk_drew ?_ | refine blk_alloc ?_ _)); refine blk_put (cs := #[.string (⟨#[]⟩ : ByteArray), .int .i64 0, .int .i64 0, .int .i64 0, .string (⟨#[]⟩ : ByteArray)]) ?_ 2 _ rfl; (with_reducible repeat (first | refine blk_drewN ?_ _ | refine blk_drew ?_ | refine blk_alloc ?_ _)); refine blk_put (cs := #[.string (⟨#[]⟩ : ByteArray), .int .i64 0, .int .i64 0, .int .i64 0, .string (⟨#[]⟩ : ByteArray)]) ?_ 1 _ rfl; (with_reducible repeat (first | refine blk_drewN ?_ _ | refine blk_drew ?_ | refine blk_alloc ?_ _)); refine blk_put (cs := #[.string (⟨#[]⟩ : ByteArray), .int .i64 0, .int .i64 0, .int .i64 0, .string (⟨#[]⟩ : ByteArray)]) ?_ 0 _ rfl; (with_reducible repeat (first | refine blk_drewN ?_ _ | refine blk_drew ?_ | refine blk_alloc ?_ _)); refine blk_far ?_ NB124_130.out _; (with_reducible repeat (first | refine blk_drewN ?_ _ | refine blk_drew ?_ | refine blk_alloc ?_ _)); refine blk_far ?_ NB124_130.out _; (with_reducible repeat (first | refine blk_drewN ?_ _ | refine blk_drew ?_ | refine blk_alloc ?_ _)); refine blk_far ?_ NB124_130.out _; (with_reducible repeat (first | refine blk_drewN ?_ _ | refine blk_drew ?_ | refine blk_alloc ?_ _)); exact BK124.out) Try.underlying53 rfl (by kernel_rfl)) rfl ?_
        exact ⟨by first | rfl | (simp [errW_none, errW_some] <;> rfl) | (simp [*, errW_none, errW_some] <;> rfl), by repeat (first | (with_reducible first | exact HB.out | apply below_alloc | apply pw_below_drewN | apply below_drew1 | refine below_set ?_ GE124.out | refine below_set ?_ GE130.out) | exact HB.out)⟩
    · rw [if_neg c7] at H
      have c7b0 : (t133 == 0) = false := beq_eq_false_iff_ne.mpr c7
      have c7b1 : (t133 != 0) = true := bne_iff_ne.mpr c7
      simp only [Option.some.injEq, Prod.mk.injEq] at H
      obtain ⟨rfl, rfl, rfl, rfl, rfl, rfl, rfl⟩ := H
      go_enter Try.func50, Try.ntmps50
      go_wp2_with (first | ((with_reducible refine gate_dst (N := 4) rfl ?_); refine box_event ?hg (N := 4) ?hd (cs := #[.string (⟨#[]⟩ : ByteArray), .int .i64 0, .int .i64 0, .int .i64 0, .string (⟨#[]⟩ : ByteArray)]) (t := 53) ?hr ?_; (case hd => rfl); (case hg => rfl); (case hr => first | (go_simp; done) | (go_simp; rfl)); intro gb124 hg w24 hbox hb; have n0_ := Aside0.mk (below_step (by repeat (first | (with_reducible first | exact HB.out | apply below_alloc | apply pw_below_drewN | apply below_drew1) | exact HB.out)) hb); have n1_ := Aside0.mk (hbox); have n2_ := Aside0.mk ((by rw [hg]; exact (below_size (by repeat (first | (with_reducible first | exact HB.out | apply below_alloc | apply pw_below_drewN | apply below_drew1) | exact HB.out))) : w.heap.size ≤ gb124)); have n3_ := Aside0.mk ((by rw [hg]; exact (below_size (by repeat (first | (with_reducible first | exact HB.out | apply below_alloc | apply pw_below_drewN | apply below_drew1) | exact HB.out))) : w.heap.size ≤ gb124)); clear HB; have HB := n0_; have BK124 := n1_; have GW124 := n2_; have GE124 := n3_; clear n0_ n1_ n2_ n3_; clear hb hbox hg) | ((with_reducible refine gate_dst (N := 21) rfl ?_); (with_reducible refine gate_callee (f := 49) rfl ?_); refine goesL_ (some 21) rfl rfl Try.func49 (by kernel_rfl) rfl #[.string a0, .int .i64 a1] rfl (by (try simp only [List.map_toArray, List.map_cons, List.map_nil]); first | done | rfl | (simp only [List.length_drop, List.length_take]; rfl)) ?_; (with_reducible refine (wimpleref4_question.calls k a0 a1 t125 t126 t127 t128 true _ A3.out).mono ?_); rintro e w25 ⟨rfl, hb⟩; refine ⟨_, rfl, ?_⟩; have n0_ := Aside0.mk (blk_below (g := gb124) (o := .cells #[.string (⟨#[]⟩ : ByteArray), .int .i64 0, .int .i64 0, .int .i64 0, .string (⟨#[]⟩ : ByteArray)] 53 (0, 0)) (by (with_reducible repeat (first | refine blk_drewN ?_ _ | refine blk_drew ?_ | refine blk_alloc ?_ _)); exact BK124.out) hb); have n1_ := Aside0.mk (below_step (by repeat (first | (with_reducible first | exact HB.out | apply below_alloc | apply pw_below_drewN | apply below_drew1 | refine below_set ?_ GE124.out) | exact HB.out)) hb); clear BK124; clear HB; have BK124 := n0_; have HB := n1_; clear n0_ n1_; (try clear hb); (try clear hb2); (try clear hk); (try clear hi)) | ((with_reducible refine gate_dst (N := 7) rfl ?_); refine box_event ?hg (N := 7) ?hd (cs := #[.string (⟨#[]⟩ : ByteArray), .int .i64 0, .int .i64 0]) (t := 40) ?hr ?_; (case hd => rfl); (case hg => rfl); (case hr => first | (go_simp; done) | (go_simp; rfl)); intro gb130 hg w26 hbox hb; have n0_ := Aside0.mk (blk_below (g := gb124) (o := .cells #[.string (⟨#[]⟩ : ByteArray), .int .i64 0, .int .i64 0, .int .i64 0, .string (⟨#[]⟩ : ByteArray)] 53 (0, 0)) (by (with_reducible repeat (first | refine blk_drewN ?_ _ | refine blk_drew ?_ | refine blk_alloc ?_ _)); exact BK124.out) hb); have n1_ := Aside0.mk (below_step (by repeat (first | (with_reducible first | exact HB.out | apply below_alloc | apply pw_below_drewN | apply below_drew1 | refine below_set ?_ GE124.out) | exact HB.out)) hb); have n2_ := Aside0.mk (hbox); have n3_ := Aside0.mk ((by rw [hg]; exact (below_size (by repeat (first | (with_reducible first | exact HB.out | apply below_alloc | apply pw_below_drewN | apply below_drew1 | refine below_set ?_ GE124.out) | exact HB.out))) : w.heap.size ≤ gb130)); have n4_ := Aside0.mk ((by rw [hg]; exact (below_size (by repeat (first | (with_reducible first | exact HB.out | apply below_alloc | apply pw_below_drewN | apply below_drew1 | refine below_set ?_ GE124.out) | exact HB.out))) : w.heap.size ≤ gb130)); have n5_ := Aside0.mk ((by rw [hg]; exact Nat.ne_of_lt (blk_lt (g := gb124) (o := .cells #[.string (⟨#[]⟩ : ByteArray), .int .i64 0, .int .i64 0, .int .i64 0, .string (⟨#[]⟩ : ByteArray)] 53 (0, 0)) (by (with_reducible repeat (first | refine blk_drewN ?_ _ | refine blk_drew ?_ | refine blk_alloc ?_ _)); exact BK124.out)) : gb124 ≠ gb130)); have n6_ := Aside0.mk ((by rw [hg]; exact Nat.ne_of_gt (blk_lt (g := gb124) (o := .cells #[.string (⟨#[]⟩ : ByteArray), .int .i64 0, .int .i64 0, .int .i64 0, .string (⟨#[]⟩ : ByteArray)] 53 (0, 0)) (by (with_reducible repeat (first | refine blk_drewN ?_ _ | refine blk_drew ?_ | refine blk_alloc ?_ _)); exact BK124.out)) : gb130 ≠ gb124)); clear BK124; clear HB; have BK124 := n0_; have HB := n1_; have BK130 := n2_; have GW130 := n3_; have GE130 := n4_; have NB124_130 := n5_; have NB130_124 := n6_; clear n0_ n1_ n2_ n3_ n4_ n5_ n6_; clear hb hbox hg; have hnb27 := NB130_124.out; have hnc27 := NB124_130.out; (try clear hcz20_0 hcz20_1 hcz20_2 hfz20_0 hfz20_1 hfz20_2); (try clear hcz14_0 hcz14_1 hcz14_2 hfz14_0 hfz14_1 hfz14_2); (try clear hcz16_0 hcz16_1 hcz16_2 hfz16_0 hfz16_1 hfz16_2); (try clear hcz17_0 hcz17_1 hcz17_2 hcz17_3 hcz17_4 hfz17_0 hfz17_1 hfz17_2 hfz17_3 hfz17_4); (try clear hcz22_0 hcz22_1 hcz22_2 hfz22_0 hfz22_1 hfz22_2); (try clear hcz23_0 hcz23_1 hcz23_2 hcz23_3 hcz23_4 hfz23_0 hfz23_1 hfz23_2 hfz23_3 hfz23_4); have hcz28_0 : w26.cell? ⟨gb130, 0, none⟩ = some (.string (⟨#[]⟩ : ByteArray)) := (blk_cell BK130.out 0).trans rfl; have hcz28_1 : w26.cell? ⟨gb130, 1, none⟩ = some (.int .i64 0) := (blk_cell BK130.out 1).trans rfl; have hcz28_2 : w26.cell? ⟨gb130, 2, none⟩ = some (.int .i64 0) := (blk_cell BK130.out 2).trans rfl; have hfz28_0 := blk_frozen BK130.out 0; have hfz28_1 := blk_frozen BK130.out 1; have hfz28_2 := blk_frozen BK130.out 2) | ((with_reducible refine gate_dst (N := 31) rfl ?_); (with_reducible refine gate_callee (f := 54) rfl ?_); refine goesL_ (some 31) rfl rfl Try.func54 (by kernel_rfl) rfl #[.string a0, .int .i64 t128, .int .i64 4] rfl (by (try simp only [List.map_toArray, List.map_cons, List.map_nil]); first | done | rfl | (simp only [List.length_drop, List.length_take]; rfl)) ?_; (with_reducible refine (wimpleref1_Num.calls k a0 t128 4 t131 t132 t133 _ A5.out).mono ?_); rintro e w' ⟨rfl, ⟨nd, rfl⟩⟩; refine ⟨_, rfl, ?_⟩) | ((with_reducible refine gate_dst (N := 38) rfl ?_); (with_reducible refine gate_callee (f := 54) rfl ?_); refine goesL_ (some 38) rfl rfl Try.func54 (by kernel_rfl) rfl #[.string a0, .int .i64 t132, .int .i64 2] rfl (by (try simp only [List.map_toArray, List.map_cons, List.map_nil]); first | done | rfl | (simp only [List.length_drop, List.length_take]; rfl)) ?_; (with_reducible refine (wimpleref1_Num.calls k a0 t132 2 t134 t135 t136 _ A6.out).mono ?_); rintro e w' ⟨rfl, ⟨nd, rfl⟩⟩; refine ⟨_, rfl, ?_⟩; (try clear hcz14_0 hcz14_1 hcz14_2 hfz14_0 hfz14_1 hfz14_2); (try clear hcz16_0 hcz16_1 hcz16_2 hfz16_0 hfz16_1 hfz16_2); (try clear hcz17_0 hcz17_1 hcz17_2 hcz17_3 hcz17_4 hfz17_0 hfz17_1 hfz17_2 hfz17_3 hfz17_4); (try clear hcz22_0 hcz22_1 hcz22_2 hfz22_0 hfz22_1 hfz22_2); (try clear hcz23_0 hcz23_1 hcz23_2 hcz23_3 hcz23_4 hfz23_0 hfz23_1 hfz23_2 hfz23_3 hfz23_4); have hcz29_0 : w26.cell? ⟨gb124, 0, none⟩ = some (.string (⟨#[]⟩ : ByteArray)) := (blk_cell BK124.out 0).trans rfl; have hcz29_1 : w26.cell? ⟨gb124, 1, none⟩ = some (.int .i64 0) := (blk_cell BK124.out 1).trans rfl; have hcz29_2 : w26.cell? ⟨gb124, 2, none⟩ = some (.int .i64 0) := (blk_cell BK124.out 2).trans rfl; have hcz29_3 : w26.cell? ⟨gb124, 3, none⟩ = some (.int .i64 0) := (blk_cell BK124.out 3).trans rfl; have hcz29_4 : w26.cell? ⟨gb124, 4, none⟩ = some (.string (⟨#[]⟩ : ByteArray)) := (blk_cell BK124.out 4).trans rfl; have hfz29_0 := blk_frozen BK124.out 0; have hfz29_1 := blk_frozen BK124.out 1; have hfz29_2 := blk_frozen BK124.out 2; have hfz29_3 := blk_frozen BK124.out 3; have hfz29_4 := blk_frozen BK124.out 4))
      refine bodyPost_ret (results_ctt rfl _ _ gb124 53 #[.string (⟨#[]⟩ : ByteArray), .int .i64 0, .int .i64 0, .int .i64 0, .string (⟨#[]⟩ : ByteArray)] (0, 0) _ rfl (by (with_reducible repeat (first | refine blk_drewN ?_ _ | refine blk_drew ?_ | refine blk_alloc ?_ _)); refine blk_put (cs := #[.string (⟨#[]⟩ : ByteArray), .int .i64 0, .int .i64 0, .int .i64 0, .string (⟨#[]⟩ : ByteArray)]) ?_ 4 _ rfl; (with_reducible repeat (first | refine blk_drewN ?_ _ | refine blk_drew ?_ | refine blk_alloc ?_ _)); refine blk_put (cs := #[.string (⟨#[]⟩ : ByteArray), .int .i64 0, .int .i64 0, .int .i64 0, .string (⟨#[]⟩ : ByteArray)]) ?_ 3 _ rfl; (with_reducible repeat (first | refine blk_drewN ?_ _ | refine blk_drew ?_ | refine blk_alloc ?_ _)); refine blk_put (cs := #[.string (⟨#[]⟩ : ByteArray), .int .i64 0, .int .i64 0, .int .i64 0, .string (⟨#[]⟩ : ByteArray)]) ?_ 2 _ rfl; (with_reducible repeat (first | refine blk_drewN ?_ _ | refine blk_drew ?_ | refine blk_alloc ?_ _)); refine blk_put (cs := #[.string (⟨#[]⟩ : ByteArray), .int .i64 0, .int .i64 0, .int .i64 0, .string (⟨#[]⟩ : ByteArray)]) ?_ 1 _ rfl; (with_reducible repeat (first | refine blk_drewN ?_ _ | refine blk_drew ?_ | refine blk_alloc ?_ _)); refine blk_put (cs := #[.string (⟨#[]⟩ : ByteArray), .int .i64 0, .int .i64 0, .int .i64 0, .string (⟨#[]⟩ : ByteArray)]) ?_ 0 _ rfl; (with_reducible repeat (first | refine blk_drewN ?_ _ | refine blk_drew ?_ | refine blk_alloc ?_ _)); refine blk_far ?_ NB124_130.out _; (with_reducible repeat (first | refine blk_drewN ?_ _ | refine blk_drew ?_ | refine blk_alloc ?_ _)); refine blk_far ?_ NB124_130.out _; (with_reducible repeat (first | refine blk_drewN ?_ _ | refine blk_drew ?_ | refine blk_alloc ?_ _)); refine blk_far ?_ NB124_130.out _; (with_reducible repeat (first | refine blk_drewN ?_ _ | refine blk_drew ?_ | refine blk_alloc ?_ _)); exact BK124.out) Try.underlying53 rfl (by kernel_rfl)) rfl ?_
      exact ⟨by first | rfl | (simp [errW_none, errW_some] <;> rfl) | (simp [*, errW_none, errW_some] <;> rfl), by repeat (first | (with_reducible first | exact HB.out | apply below_alloc | apply pw_below_drewN | apply below_drew1 | refine below_set ?_ GE124.out | refine below_set ?_ GE130.out) | exact HB.out)⟩
  · replace c4 := Bool.eq_false_iff.mpr c4
    subst c4
    have H1 : (some ((⟨#[]⟩ : ByteArray), 0, 0, 0, (⟨#[]⟩ : ByteArray), 0, false)) = some (r1, r2, r3, r4, r5, r6, r7) := by rw [if_neg (show ¬ (false = true) by decide)] at H; exact H
    clear H
    have H := H1
    clear H1
    simp only [Option.some.injEq, Prod.mk.injEq] at H
    obtain ⟨rfl, rfl, rfl, rfl, rfl, rfl, rfl⟩ := H
    go_enter Try.func50, Try.ntmps50
    go_wp2_with (first | ((with_reducible refine gate_dst (N := 4) rfl ?_); refine box_event ?hg (N := 4) ?hd (cs := #[.string (⟨#[]⟩ : ByteArray), .int .i64 0, .int .i64 0, .int .i64 0, .string (⟨#[]⟩ : ByteArray)]) (t := 53) ?hr ?_; (case hd => rfl); (case hg => rfl); (case hr => first | (go_simp; done) | (go_simp; rfl)); intro gb124 hg w30 hbox hb; have n0_ := Aside0.mk (below_step (by repeat (first | (with_reducible first | exact HB.out | apply below_alloc | apply pw_below_drewN | apply below_drew1) | exact HB.out)) hb); have n1_ := Aside0.mk (hbox); have n2_ := Aside0.mk ((by rw [hg]; exact (below_size (by repeat (first | (with_reducible first | exact HB.out | apply below_alloc | apply pw_below_drewN | apply below_drew1) | exact HB.out))) : w.heap.size ≤ gb124)); have n3_ := Aside0.mk ((by rw [hg]; exact (below_size (by repeat (first | (with_reducible first | exact HB.out | apply below_alloc | apply pw_below_drewN | apply below_drew1) | exact HB.out))) : w.heap.size ≤ gb124)); clear HB; have HB := n0_; have BK124 := n1_; have GW124 := n2_; have GE124 := n3_; clear n0_ n1_ n2_ n3_; clear hb hbox hg) | ((with_reducible refine gate_dst (N := 21) rfl ?_); (with_reducible refine gate_callee (f := 49) rfl ?_); refine goesL_ (some 21) rfl rfl Try.func49 (by kernel_rfl) rfl #[.string a0, .int .i64 a1] rfl (by (try simp only [List.map_toArray, List.map_cons, List.map_nil]); first | done | rfl | (simp only [List.length_drop, List.length_take]; rfl)) ?_; (with_reducible refine (wimpleref4_question.calls k a0 a1 t125 t126 t127 t128 false _ A3.out).mono ?_); rintro e w31 ⟨rfl, hb⟩; refine ⟨_, rfl, ?_⟩; have n0_ := Aside0.mk (blk_below (g := gb124) (o := .cells #[.string (⟨#[]⟩ : ByteArray), .int .i64 0, .int .i64 0, .int .i64 0, .string (⟨#[]⟩ : ByteArray)] 53 (0, 0)) (by (with_reducible repeat (first | refine blk_drewN ?_ _ | refine blk_drew ?_ | refine blk_alloc ?_ _)); exact BK124.out) hb); have n1_ := Aside0.mk (below_step (by repeat (first | (with_reducible first | exact HB.out | apply below_alloc | apply pw_below_drewN | apply below_drew1 | refine below_set ?_ GE124.out) | exact HB.out)) hb); clear BK124; clear HB; have BK124 := n0_; have HB := n1_; clear n0_ n1_; (try clear hb); (try clear hb2); (try clear hk); (try clear hi)) | ((with_reducible refine gate_dst (N := 7) rfl ?_); refine box_event ?hg (N := 7) ?hd (cs := #[.string (⟨#[]⟩ : ByteArray), .int .i64 0, .int .i64 0]) (t := 40) ?hr ?_; (case hd => rfl); (case hg => rfl); (case hr => first | (go_simp; done) | (go_simp; rfl)); intro gb130 hg w32 hbox hb; have n0_ := Aside0.mk (blk_below (g := gb124) (o := .cells #[.string (⟨#[]⟩ : ByteArray), .int .i64 0, .int .i64 0, .int .i64 0, .string (⟨#[]⟩ : ByteArray)] 53 (0, 0)) (by (with_reducible repeat (first | refine blk_drewN ?_ _ | refine blk_drew ?_ | refine blk_alloc ?_ _)); exact BK124.out) hb); have n1_ := Aside0.mk (below_step (by repeat (first | (with_reducible first | exact HB.out | apply below_alloc | apply pw_below_drewN | apply below_drew1 | refine below_set ?_ GE124.out) | exact HB.out)) hb); have n2_ := Aside0.mk (hbox); have n3_ := Aside0.mk ((by rw [hg]; exact (below_size (by repeat (first | (with_reducible first | exact HB.out | apply below_alloc | apply pw_below_drewN | apply below_drew1 | refine below_set ?_ GE124.out) | exact HB.out))) : w.heap.size ≤ gb130)); have n4_ := Aside0.mk ((by rw [hg]; exact (below_size (by repeat (first | (with_reducible first | exact HB.out | apply below_alloc | apply pw_below_drewN | apply below_drew1 | refine below_set ?_ GE124.out) | exact HB.out))) : w.heap.size ≤ gb130)); have n5_ := Aside0.mk ((by rw [hg]; exact Nat.ne_of_lt (blk_lt (g := gb124) (o := .cells #[.string (⟨#[]⟩ : ByteArray), .int .i64 0, .int .i64 0, .int .i64 0, .string (⟨#[]⟩ : ByteArray)] 53 (0, 0)) (by (with_reducible repeat (first | refine blk_drewN ?_ _ | refine blk_drew ?_ | refine blk_alloc ?_ _)); exact BK124.out)) : gb124 ≠ gb130)); have n6_ := Aside0.mk ((by rw [hg]; exact Nat.ne_of_gt (blk_lt (g := gb124) (o := .cells #[.string (⟨#[]⟩ : ByteArray), .int .i64 0, .int .i64 0, .int .i64 0, .string (⟨#[]⟩ : ByteArray)] 53 (0, 0)) (by (with_reducible repeat (first | refine blk_drewN ?_ _ | refine blk_drew ?_ | refine blk_alloc ?_ _)); exact BK124.out)) : gb130 ≠ gb124)); clear BK124; clear HB; have BK124 := n0_; have HB := n1_; have BK130 := n2_; have GW130 := n3_; have GE130 := n4_; have NB124_130 := n5_; have NB130_124 := n6_; clear n0_ n1_ n2_ n3_ n4_ n5_ n6_; clear hb hbox hg; have hnb33 := NB130_124.out; have hnc33 := NB124_130.out; (try clear hcz16_0 hcz16_1 hcz16_2 hfz16_0 hfz16_1 hfz16_2); (try clear hcz17_0 hcz17_1 hcz17_2 hcz17_3 hcz17_4 hfz17_0 hfz17_1 hfz17_2 hfz17_3 hfz17_4); (try clear hcz22_0 hcz22_1 hcz22_2 hfz22_0 hfz22_1 hfz22_2); (try clear hcz23_0 hcz23_1 hcz23_2 hcz23_3 hcz23_4 hfz23_0 hfz23_1 hfz23_2 hfz23_3 hfz23_4); (try clear hcz28_0 hcz28_1 hcz28_2 hfz28_0 hfz28_1 hfz28_2); (try clear hcz29_0 hcz29_1 hcz29_2 hcz29_3 hcz29_4 hfz29_0 hfz29_1 hfz29_2 hfz29_3 hfz29_4); have hcz34_0 : w32.cell? ⟨gb130, 0, none⟩ = some (.string (⟨#[]⟩ : ByteArray)) := (blk_cell BK130.out 0).trans rfl; have hcz34_1 : w32.cell? ⟨gb130, 1, none⟩ = some (.int .i64 0) := (blk_cell BK130.out 1).trans rfl; have hcz34_2 : w32.cell? ⟨gb130, 2, none⟩ = some (.int .i64 0) := (blk_cell BK130.out 2).trans rfl; have hfz34_0 := blk_frozen BK130.out 0; have hfz34_1 := blk_frozen BK130.out 1; have hfz34_2 := blk_frozen BK130.out 2; (try clear hcz17_0 hcz17_1 hcz17_2 hcz17_3 hcz17_4 hfz17_0 hfz17_1 hfz17_2 hfz17_3 hfz17_4); (try clear hcz22_0 hcz22_1 hcz22_2 hfz22_0 hfz22_1 hfz22_2); (try clear hcz23_0 hcz23_1 hcz23_2 hcz23_3 hcz23_4 hfz23_0 hfz23_1 hfz23_2 hfz23_3 hfz23_4); (try clear hcz28_0 hcz28_1 hcz28_2 hfz28_0 hfz28_1 hfz28_2); (try clear hcz29_0 hcz29_1 hcz29_2 hcz29_3 hcz29_4 hfz29_0 hfz29_1 hfz29_2 hfz29_3 hfz29_4); have hcz35_0 : w32.cell? ⟨gb124, 0, none⟩ = some (.string (⟨#[]⟩ : ByteArray)) := (blk_cell BK124.out 0).trans rfl; have hcz35_1 : w32.cell? ⟨gb124, 1, none⟩ = some (.int .i64 0) := (blk_cell BK124.out 1).trans rfl; have hcz35_2 : w32.cell? ⟨gb124, 2, none⟩ = some (.int .i64 0) := (blk_cell BK124.out 2).trans rfl; have hcz35_3 : w32.cell? ⟨gb124, 3, none⟩ = some (.int .i64 0) := (blk_cell BK124.out 3).trans rfl; have hcz35_4 : w32.cell? ⟨gb124, 4, none⟩ = some (.string (⟨#[]⟩ : ByteArray)) := (blk_cell BK124.out 4).trans rfl; have hfz35_0 := blk_frozen BK124.out 0; have hfz35_1 := blk_frozen BK124.out 1; have hfz35_2 := blk_frozen BK124.out 2; have hfz35_3 := blk_frozen BK124.out 3; have hfz35_4 := blk_frozen BK124.out 4))
    refine bodyPost_ret (results_ctt rfl _ _ gb124 53 #[.string (⟨#[]⟩ : ByteArray), .int .i64 0, .int .i64 0, .int .i64 0, .string (⟨#[]⟩ : ByteArray)] (0, 0) _ rfl (by (with_reducible repeat (first | refine blk_drewN ?_ _ | refine blk_drew ?_ | refine blk_alloc ?_ _)); refine blk_put (cs := #[.string (⟨#[]⟩ : ByteArray), .int .i64 0, .int .i64 0, .int .i64 0, .string (⟨#[]⟩ : ByteArray)]) ?_ 4 _ rfl; (with_reducible repeat (first | refine blk_drewN ?_ _ | refine blk_drew ?_ | refine blk_alloc ?_ _)); refine blk_put (cs := #[.string (⟨#[]⟩ : ByteArray), .int .i64 0, .int .i64 0, .int .i64 0, .string (⟨#[]⟩ : ByteArray)]) ?_ 3 _ rfl; (with_reducible repeat (first | refine blk_drewN ?_ _ | refine blk_drew ?_ | refine blk_alloc ?_ _)); refine blk_put (cs := #[.string (⟨#[]⟩ : ByteArray), .int .i64 0, .int .i64 0, .int .i64 0, .string (⟨#[]⟩ : ByteArray)]) ?_ 2 _ rfl; (with_reducible repeat (first | refine blk_drewN ?_ _ | refine blk_drew ?_ | refine blk_alloc ?_ _)); refine blk_put (cs := #[.string (⟨#[]⟩ : ByteArray), .int .i64 0, .int .i64 0, .int .i64 0, .string (⟨#[]⟩ : ByteArray)]) ?_ 1 _ rfl; (with_reducible repeat (first | refine blk_drewN ?_ _ | refine blk_drew ?_ | refine blk_alloc ?_ _)); refine blk_put (cs := #[.string (⟨#[]⟩ : ByteArray), .int .i64 0, .int .i64 0, .int .i64 0, .string (⟨#[]⟩ : ByteArray)]) ?_ 0 _ rfl; (with_reducible repeat (first | refine blk_drewN ?_ _ | refine blk_drew ?_ | refine blk_alloc ?_ _)); refine blk_far ?_ NB124_130.out _; (with_reducible repeat (first | refine blk_drewN ?_ _ | refine blk_drew ?_ | refine blk_alloc ?_ _)); refine blk_far ?_ NB124_130.out _; (with_reducible repeat (first | refine blk_drewN ?_ _ | refine blk_drew ?_ | refine blk_alloc ?_ _)); refine blk_far ?_ NB124_130.out _; (with_reducible repeat (first | refine blk_drewN ?_ _ | refine blk_drew ?_ | refine blk_alloc ?_ _)); exact BK124.out) Try.underlying53 rfl (by kernel_rfl)) rfl ?_
    exact ⟨by first | rfl | (simp [errW_none, errW_some] <;> rfl) | (simp [*, errW_none, errW_some] <;> rfl), by repeat (first | (with_reducible first | exact HB.out | apply below_alloc | apply pw_below_drewN | apply below_drew1 | refine below_set ?_ GE124.out | refine below_set ?_ GE130.out) | exact HB.out)⟩

-- NOT PRINTED: function 48 (wimpleref4_GetHead)

-- NOT PRINTED: function 25 (wimpleref4_GetMsg)

end Go.Proofs.Ytjklgdpffmaamaa.PRf

namespace Go.Proofs.Ytjklgdpffmaamaa.Wm
open Go.RowKit Go.PlainAid Go.Proofs.Ytjklgdpffmaamaa.Base Go.Proofs.Ytjklgdpffmaamaa.Oct Go.Proofs.Ytjklgdpffmaamaa.Nm Go.Proofs.Ytjklgdpffmaamaa.Wr Go.Proofs.Ytjklgdpffmaamaa.CompS Go.Proofs.Ytjklgdpffmaamaa.Pu
open Go.Proofs.Ytjklgdpffmaamaa.PCm (comp_Name.f comp_Name.l0 comp_Data.f comp_names.f comp_names.l0 comp_shape.f)
open Go.Proofs.Ytjklgdpffmaamaa.PRf (wimpleref1_Num.f wimpleref4_Name.f wimpleref4_Data.f wimpleref4_Data.j0 wimpleref4_Data.j1 wimpleref4_Data.j2 wimpleref4_Data.l0 wimpleref4_DataMay.f)
open Go.Proofs.YtjklgdpffmaamaaW.PrintWords (Ev bytesOf bytesOf_length LeO)
set_option linter.unusedVariables false
/-! ### Where an SOA's names end -/
theorem bt_mid (P h R : ByteArray) (i : Nat) (hi : i < h.size) : bt (P ++ h ++ R) (P.size + i) = bt h i := by
  rw [bt_append_left _ _ _ (by rw [ByteArray.size_append]; omega), bt_append_right _ _ _ (by omega)]
  congr 1; omega
theorem extract_mid (P h R : ByteArray) : (P ++ h ++ R).extract P.size (P.size + h.size) = h := by
  apply Pu.ext_data
  rw [ByteArray.data_extract, Array.toList_extract, List.extract_eq_take_drop, ByteArray.data_append, ByteArray.data_append, Array.toList_append, Array.toList_append]
  have h1 : P.data.toList.length = P.size := Pu.data_length P
  have h2 : h.data.toList.length = h.size := Pu.data_length h
  rw [List.append_assoc, ← h1, List.drop_left, show P.data.toList.length + h.size - P.data.toList.length = h.data.toList.length by omega, List.take_left]
theorem zero_mid (P h R : ByteArray) : ∀ (d i : Nat), h.size - i ≤ d → nameAt h i = true → zeroAt (P ++ h ++ R) (P.size + i) = some (P.size + h.size - 1)
  | 0, i, hd, hn => by rw [nameAt_out (by omega)] at hn; cases hn
  | d + 1, i, hd, hn => by
    by_cases hi : i < h.size
    · have hb := bt_mid P h R i hi
      have hs : P.size + i < (P ++ h ++ R).size := by rw [ByteArray.size_append, ByteArray.size_append]; omega
      by_cases h0 : bt h i = 0
      · rw [nameAt_end hi h0] at hn
        simp only [decide_eq_true_eq] at hn
        rw [zeroAt_end hs (by rw [hb]; exact h0)]
        congr 1; omega
      · by_cases h1 : bt h i ≤ 63
        · rw [nameAt_next hi h0 h1] at hn
          rw [zeroAt_next hs (by rw [hb]; exact h0), hb, show P.size + i + 1 + (bt h i).toNat = P.size + (i + 1 + (bt h i).toNat) by omega]
          exact zero_mid P h R d _ (by omega) hn
        · rw [nameAt_bad hi (by omega)] at hn; cases hn
    · rw [nameAt_out (by omega)] at hn; cases hn
theorem name_pos {h : ByteArray} (hn : nameB h = true) : 0 < h.size := by have := (name_first hn).1; omega
theorem end_mid (P h R : ByteArray) (hn : nameB h = true) : endN (P ++ h ++ R) P.size = ((P.size + h.size : Nat) : Int) := by
  have h1 : nameAt h 0 = true := by unfold nameB at hn; simp only [Bool.and_eq_true] at hn; exact hn.2
  have hz := zero_mid P h R h.size 0 (by omega) h1
  have hp := name_pos hn
  unfold endN
  rw [Nat.add_zero] at hz
  rw [hz]
  simp only
  rw [show P.size + h.size - 1 + 1 = P.size + h.size by omega, extract_mid, hn, if_pos rfl]
  omega
theorem nil_app (h : ByteArray) : (⟨#[]⟩ : ByteArray) ++ h = h := ByteArray.empty_append
theorem soa_rest {a b R : ByteArray} (ha : nameB a = true) (hb : nameB b = true) (h : Rd.mayD 6 (a ++ b ++ R) = true) : R.size = 20 := by
  have z : (a ++ b ++ R).size = a.size + b.size + R.size := by simp only [ByteArray.size_append]
  have e1 := end_mid (⟨#[]⟩ : ByteArray) a (b ++ R) ha
  rw [nil_app, ← ByteArray.append_assoc, show (⟨#[]⟩ : ByteArray).size = 0 from rfl, Nat.zero_add] at e1
  have e2 := end_mid a b R hb
  unfold Rd.mayD at h
  rw [if_neg (by decide), if_neg (by decide)] at h
  by_cases c3 : 65535 < (a ++ b ++ R).size
  · rw [if_pos c3] at h; cases h
  rw [if_neg c3] at h
  have h : Rd.soaB (a ++ b ++ R) = true := h
  unfold Rd.soaB at h
  rw [e1, Int.toNat_natCast, e2] at h
  simp only [Bool.and_eq_true, decide_eq_true_eq] at h
  have := h.2.2
  rw [z] at this
  omega
/-! ### Names, that are none -/
theorem names_1err {s : ByteArray} {i : Int} (h : Ev (fun k => comp_Name.f k s i) err) : Ev (fun k => comp_names.f k s i 1) err := by
  show Ev (fun k => comp_names.l0 k s i (⟨#[]⟩ : ByteArray) 1 0) _
  exact Ev.step (fun k => by rw [comp_names.l0]) (Ev.pos (by decide) (Ev.bind h (Ev.neg (by show ¬ ((500 : Int) = 0); decide) (Ev.now _))))
theorem names_2err {s : ByteArray} {i : Int} (h : Ev (fun k => comp_Name.f k s i) err) : Ev (fun k => comp_names.f k s i 2) err := by
  show Ev (fun k => comp_names.l0 k s i (⟨#[]⟩ : ByteArray) 2 0) _
  exact Ev.step (fun k => by rw [comp_names.l0]) (Ev.pos (by decide) (Ev.bind h (Ev.neg (by show ¬ ((500 : Int) = 0); decide) (Ev.now _))))
theorem names_2err2 {s nm : ByteArray} {i p : Int} (h : Ev (fun k => comp_Name.f k s i) (nm, p, 0)) (hz : nm.size ≤ 255) (k : Ev (fun k => comp_Name.f k s p) err) : Ev (fun k => comp_names.f k s i 2) err := by
  show Ev (fun k => comp_names.l0 k s i (⟨#[]⟩ : ByteArray) 2 0) _
  refine Ev.step (fun k => by rw [comp_names.l0]) (Ev.pos (by decide) (Ev.bind h ?_))
  refine Ev.pos rfl (Ev.pos (by show 0 + nm.size ≤ 9223372036854775807; omega) ?_)
  exact Ev.step (fun k => by rw [comp_names.l0]) (Ev.pos (by rw [Pu.w64 (by decide) (by decide)]; decide) (Ev.bind k (Ev.neg (by show ¬ ((500 : Int) = 0); decide) (Ev.now _))))
/-! ### The document's data -/
section
variable {S out : ByteArray} {i z fr : Nat} {t many c : Int} {r : ByteArray × Int}
theorem rd_out (hS : S.size ≤ 1000000) (h : S.size < i + z) : Ev (fun k => wimpleref4_Data.f k S (i : Int) (z : Int) t) no := by
  refine Ev.neg (by omega) (Ev.neg (by omega) ?_)
  by_cases h1 : (i : Int) > (S.size : Int)
  · exact Ev.pos h1 (Ev.step (fun k => by rw [wimpleref4_Data.j0]) (Ev.pos rfl (Ev.now _)))
  · refine Ev.neg h1 ?_
    rw [Pu.w64 (x := (S.size : Int) - (i : Int)) (by omega) (by omega), decide_eq_true (by omega)]
    exact Ev.step (fun k => by rw [wimpleref4_Data.j0]) (Ev.pos rfl (Ev.now _))
theorem rd_in (hS : S.size ≤ 1000000) (h : i + z ≤ S.size) (k : Ev (fun k => wimpleref4_Data.j0 k S (i : Int) (z : Int) t false) r) : Ev (fun k => wimpleref4_Data.f k S (i : Int) (z : Int) t) r := by
  refine Ev.neg (by omega) (Ev.neg (by omega) (Ev.neg (by omega) ?_))
  rw [Pu.w64 (x := (S.size : Int) - (i : Int)) (by omega) (by omega), decide_eq_false (by omega)]
  exact k
theorem rd_end (hS : S.size ≤ 1000000) (h : many ≤ c) (h1 : fr ≤ i + z) (h2 : i + z ≤ S.size) (ho : out.size ≤ 600) :
    Ev (fun k => wimpleref4_Data.l0 k S (i : Int) (z : Int) t out (fr : Int) many c) (if Rd.mayD t (out ++ S.extract fr (i + z)) = true ∧ (many ≤ 0 ∨ t = 6 ∨ fr = i + z) then (out ++ S.extract fr (i + z), 0) else no) := by
  have zx : (S.extract fr (i + z)).size = i + z - fr := by rw [ByteArray.size_extract]; omega
  have zd : (out ++ S.extract fr (i + z)).size = out.size + (i + z - fr) := by rw [ByteArray.size_append, zx]
  have hd : wimpleref4_DataMay.f t (out ++ S.extract fr (i + z)) = some (Rd.mayD t (out ++ S.extract fr (i + z))) := by unfold wimpleref4_DataMay.f; rw [if_pos (by omega)]
  refine Ev.step (fun k => by rw [wimpleref4_Data.l0]) (Ev.neg (by omega) (Ev.pos (by omega) ?_))
  rw [Pu.w64 (x := (i : Int) + (z : Int)) (by omega) (by omega), show (i : Int) + (z : Int) = ((i + z : Nat) : Int) by omega]
  simp only [Int.toNat_natCast]
  refine Ev.pos (by omega) (Ev.pos (by omega) (Ev.pos (by omega) (Ev.call hd ?_)))
  generalize hR : (if Rd.mayD t (out ++ S.extract fr (i + z)) = true ∧ (many ≤ 0 ∨ t = 6 ∨ fr = i + z) then (out ++ S.extract fr (i + z), 0) else no) = R
  by_cases hm : Rd.mayD t (out ++ S.extract fr (i + z)) = true
  · refine Ev.pos hm ?_
    by_cases hn : many ≤ 0
    · rw [if_pos ⟨hm, .inl hn⟩] at hR
      exact Ev.neg (by omega) (by rw [← hR]; exact Ev.now _)
    · refine Ev.pos (by omega) ?_
      by_cases h6 : t = 6
      · rw [if_pos ⟨hm, .inr (.inl h6)⟩] at hR
        exact Ev.pos h6 (by rw [← hR]; exact Ev.now _)
      · refine Ev.neg h6 ?_
        by_cases hf : fr = i + z
        · rw [if_pos ⟨hm, .inr (.inr hf)⟩] at hR
          exact Ev.pos (by omega) (by rw [← hR]; exact Ev.now _)
        · rw [if_neg (fun h => h.2.elim hn (fun h => h.elim h6 hf))] at hR
          exact Ev.neg (by omega) (by rw [← hR]; exact Ev.now _)
  · rw [if_neg (fun h => hm h.1)] at hR
    exact Ev.neg hm (by rw [← hR]; exact Ev.now _)
theorem rd_err (h : c < many) (k : Ev (fun k => wimpleref4_Name.f k S (fr : Int)) err) : Ev (fun k => wimpleref4_Data.l0 k S (i : Int) (z : Int) t out (fr : Int) many c) no :=
  Ev.step (fun k => by rw [wimpleref4_Data.l0]) (Ev.pos h (Ev.bind k (Ev.neg (by show ¬ ((500 : Int) = 0); decide) (Ev.now _))))
theorem rd_far {nm : ByteArray} {nx : Nat} (hS : S.size ≤ 1000000) (h2 : i + z ≤ S.size) (h : c < many) (k : Ev (fun k => wimpleref4_Name.f k S (fr : Int)) (nm, (nx : Int), 0)) (hf : i + z < nx) : Ev (fun k => wimpleref4_Data.l0 k S (i : Int) (z : Int) t out (fr : Int) many c) no := by
  refine Ev.step (fun k => by rw [wimpleref4_Data.l0]) (Ev.pos h (Ev.bind k (Ev.pos rfl ?_)))
  dsimp only
  rw [Pu.w64 (x := (i : Int) + (z : Int)) (by omega) (by omega)]
  exact Ev.pos (by omega) (Ev.now _)
theorem rd_next {nm : ByteArray} {nx : Nat} (hS : S.size ≤ 1000000) (h2 : i + z ≤ S.size) (h : c < many) (hc : 0 ≤ c) (hc2 : c ≤ 10) (k : Ev (fun k => wimpleref4_Name.f k S (fr : Int)) (nm, (nx : Int), 0)) (hf : nx ≤ i + z) (ho : out.size ≤ 600) (hn : nm.size ≤ 600)
    (q : Ev (fun k => wimpleref4_Data.l0 k S (i : Int) (z : Int) t (out ++ nm) (nx : Int) many (c + 1)) r) : Ev (fun k => wimpleref4_Data.l0 k S (i : Int) (z : Int) t out (fr : Int) many c) r := by
  refine Ev.step (fun k => by rw [wimpleref4_Data.l0]) (Ev.pos h (Ev.bind k (Ev.pos rfl ?_)))
  dsimp only
  rw [Pu.w64 (x := (i : Int) + (z : Int)) (by omega) (by omega), Pu.w64 (x := c + 1) (by omega) (by omega)]
  exact Ev.neg (by omega) (Ev.pos (by omega) q)
end
/-- Data of one name, behind so many bytes. -/
theorem one_both {S : ByteArray} (hS : S.size ≤ 1000000) {i z a : Nat} {t : Int} (h2 : i + z ≤ S.size) (ha : a ≤ 100) (haz : a ≤ z) (h6 : t ≠ 6) (hsh : Ev (fun k => comp_shape.f k t) ((a : Int), 1, 0))
    (hr : ∀ r, Ev (fun k => wimpleref4_Data.l0 k S (i : Int) (z : Int) t (S.extract i (i + a)) ((i + a : Nat) : Int) 1 0) r → Ev (fun k => wimpleref4_Data.f k S (i : Int) (z : Int) t) r) :
    ∃ d e, Ev (fun k => comp_Data.f k S (i : Int) (z : Int) t) (d, e) ∧ Ev (fun k => wimpleref4_Data.f k S (i : Int) (z : Int) t) (d, e) := by
  have zo : (S.extract i (i + a)).size ≤ 100 := by rw [ByteArray.size_extract]; omega
  rcases name_both hS (i + a) with ⟨k1, k2⟩ | ⟨nm, nx, hn, h3, h4, k1, k2⟩
  · exact ⟨_, _, data_names_no (more := 0) hS (by decide) h2 ha (by decide) hsh (by decide) (names_1err k1) (fun e => absurd e (by decide)), hr _ (rd_err (by decide) k2)⟩
  · have hz := name_size hn
    have hq := names_1 k1 hz
    by_cases hf : i + z < nx
    · exact ⟨_, _, data_names_no (more := 0) hS (by omega) h2 ha (by decide) hsh (by decide) hq (fun _ => ⟨nx, rfl, h4, fun e _ => by omega⟩), hr _ (rd_far hS h2 (by decide) k2 hf)⟩
    · have hl := rd_end (S := S) (out := S.extract i (i + a) ++ nm) (i := i) (z := z) (fr := nx) (t := t) (many := 1) (c := 0 + 1) hS (by decide) (by omega) h2 (by rw [ByteArray.size_append]; omega)
      have hl := hr _ (rd_next hS h2 (by decide) (by decide) (by decide) k2 (by omega) (by omega) (by omega) hl)
      by_cases hc : Rd.mayD t (S.extract i (i + a) ++ nm ++ S.extract nx (i + z)) = true ∧ nx = i + z
      · rw [if_pos ⟨hc.1, .inr (.inr hc.2)⟩] at hl
        exact ⟨_, _, data_names (more := 0) hS (by omega) h2 hsh (by decide) (by omega) hq (by omega) hc.1, hl⟩
      · rw [if_neg (fun h => h.2.elim (fun y => absurd y (by decide)) (fun y => y.elim h6 (fun y => hc ⟨h.1, y⟩)))] at hl
        refine ⟨_, _, data_names_no (more := 0) hS (by omega) h2 ha (by decide) hsh (by decide) hq (fun _ => ⟨nx, rfl, h4, fun e _ => ?_⟩), hl⟩
        cases hm : Rd.mayD t (S.extract i (i + a) ++ nm ++ S.extract nx (i + z)) with
        | false => rfl
        | true => exact absurd ⟨hm, by omega⟩ hc
theorem ext_same (s : ByteArray) (i : Nat) : s.extract i (i + 0) = (⟨#[]⟩ : ByteArray) := by
  apply ext_of
  rw [ext_list, Nat.add_zero, List.drop_eq_nil_of_le (by rw [List.length_take]; omega)]
/-- Data: the document and comp.Data say the same. -/
theorem data_both {S : ByteArray} (hS : S.size ≤ 1000000) (i z : Nat) (t : Int) :
    ∃ d e, Ev (fun k => comp_Data.f k S (i : Int) (z : Int) t) (d, e) ∧ Ev (fun k => wimpleref4_Data.f k S (i : Int) (z : Int) t) (d, e) := by
  by_cases h2 : i + z ≤ S.size
  · by_cases k1 : t = 2 ∨ t = 5 ∨ t = 12
    · refine one_both (a := 0) hS h2 (by decide) (by omega) (by omega) (shape_1 k1) (fun r hr => rd_in hS h2 ?_)
      rw [ext_same, Nat.add_zero] at hr
      have q : Ev (fun k => wimpleref4_Data.j1 k S (i : Int) (z : Int) t (⟨#[]⟩ : ByteArray) (i : Int) 0 t true) r :=
        Ev.step (fun k => by rw [wimpleref4_Data.j1]) (Ev.pos rfl (Ev.step (fun k => by rw [wimpleref4_Data.j2]) hr))
      refine Ev.step (fun k => by rw [wimpleref4_Data.j0]) (Ev.neg (by decide) ?_)
      rcases k1 with rfl | rfl | rfl
      · exact Ev.pos rfl q
      · exact Ev.neg (by decide) (Ev.pos rfl q)
      · exact Ev.neg (by decide) (Ev.neg (by decide) q)
    · have j0 : ∀ r, Ev (fun k => wimpleref4_Data.j1 k S (i : Int) (z : Int) t (⟨#[]⟩ : ByteArray) (i : Int) 0 t false) r → Ev (fun k => wimpleref4_Data.f k S (i : Int) (z : Int) t) r := by
        intro r hr
        refine rd_in hS h2 (Ev.step (fun k => by rw [wimpleref4_Data.j0]) (Ev.neg (by decide) (Ev.neg (fun e => k1 (.inl e)) (Ev.neg (fun e => k1 (.inr (.inl e))) ?_))))
        rw [show (t == 12) = false by simp; exact fun e => k1 (.inr (.inr e))]
        exact hr
      by_cases k2 : t = 15
      · subst k2
        by_cases hz : z < 2
        · refine ⟨_, _, ?_, j0 _ (Ev.step (fun k => by rw [wimpleref4_Data.j1]) (Ev.neg (by decide) (Ev.pos rfl (Ev.pos (by omega) (Ev.now _)))))⟩
          refine data_in hS (by omega) (by omega) (by omega) ?_
          refine Ev.step (fun k => by rw [PCm.comp_Data.j0]) (Ev.neg (by decide) ?_)
          rw [Pu.w64 (x := (i : Int) + (z : Int)) (by omega) (by omega)]
          refine Ev.pos (by omega) (Ev.pos (by omega) (Ev.pos (by omega) (Ev.bind shape_15 (Ev.pos (by decide) ?_))))
          dsimp only
          rw [Pu.w64 (x := (2 : Int) + 0) (by decide) (by decide)]
          exact Ev.pos (by omega) (Ev.now _)
        · refine one_both (a := 2) hS h2 (by decide) (by omega) (by decide) shape_15 (fun r hr => j0 _ ?_)
          refine Ev.step (fun k => by rw [wimpleref4_Data.j1]) (Ev.neg (by decide) (Ev.pos rfl (Ev.neg (by omega) (Ev.pos (by omega) ?_))))
          rw [Pu.w64 (x := (i : Int) + 2) (by omega) (by omega), show (i : Int) + 2 = ((i + 2 : Nat) : Int) by omega]
          simp only [Int.toNat_natCast]
          exact Ev.pos (by omega) (Ev.pos (by omega) (Ev.step (fun k => by rw [wimpleref4_Data.j2]) hr))
      · by_cases k3 : t = 6
        · subst k3
          have jj : ∀ r, Ev (fun k => wimpleref4_Data.l0 k S (i : Int) (z : Int) 6 (⟨#[]⟩ : ByteArray) (i : Int) 2 0) r → Ev (fun k => wimpleref4_Data.f k S (i : Int) (z : Int) 6) r := fun r hr =>
            j0 _ (Ev.step (fun k => by rw [wimpleref4_Data.j1]) (Ev.neg (by decide) (Ev.neg (by decide) (Ev.pos rfl (Ev.step (fun k => by rw [wimpleref4_Data.j2]) hr)))))
          have i0 : ((i + 0 : Nat) : Int) = (i : Int) := by omega
          rcases name_both hS i with ⟨a1, a2⟩ | ⟨nm, nx, hn, h3, h4, a1, a2⟩
          · exact ⟨_, _, data_names_no (ns := (⟨#[]⟩ : ByteArray)) (a := 0) (more := 20) hS (by decide) h2 (by decide) (by decide) shape_6 (by decide) (by rw [i0]; exact names_2err a1) (fun e => absurd e (by decide)), jj _ (rd_err (by decide) a2)⟩
          · have hz := name_size hn
            rcases name_both hS nx with ⟨b1, b2⟩ | ⟨nn, ny, hn2, h5, h6, b1, b2⟩
            · refine ⟨_, _, data_names_no (ns := (⟨#[]⟩ : ByteArray)) (a := 0) (more := 20) hS (by decide) h2 (by decide) (by decide) shape_6 (by decide) (by rw [i0]; exact names_2err2 a1 hz b1) (fun e => absurd e (by decide)), jj _ ?_⟩
              by_cases hf : i + z < nx
              · exact rd_far hS h2 (by decide) a2 hf
              · exact rd_next hS h2 (by decide) (by decide) (by decide) a2 (by omega) (by decide) (by omega) (rd_err (by decide) b2)
            · have hz2 := name_size hn2
              have hq : Ev (fun k => comp_names.f k S ((i + 0 : Nat) : Int) 2) (nm ++ nn, (ny : Int), 0) := by rw [i0]; exact names_2 a1 b1 hz hz2
              by_cases hf : i + z < ny
              · refine ⟨_, _, data_names_no (a := 0) (more := 20) hS (by rw [ByteArray.size_append]; omega) h2 (by decide) (by decide) shape_6 (by decide) hq (fun _ => ⟨ny, rfl, h6, fun e _ => by omega⟩), jj _ ?_⟩
                by_cases hf1 : i + z < nx
                · exact rd_far hS h2 (by decide) a2 hf1
                · exact rd_next hS h2 (by decide) (by decide) (by decide) a2 (by omega) (by decide) (by omega) (rd_far hS h2 (by decide) b2 hf)
              · have hl := rd_end (S := S) (out := (⟨#[]⟩ : ByteArray) ++ nm ++ nn) (i := i) (z := z) (fr := ny) (t := 6) (many := 2) (c := 0 + 1 + 1) hS (by decide) (by omega) h2 (by rw [nil_app, ByteArray.size_append]; omega)
                have hl := jj _ (rd_next hS h2 (by decide) (by decide) (by decide) a2 (by omega) (by decide) (by omega) (rd_next hS h2 (by decide) (by decide) (by decide) b2 (by omega) (by rw [nil_app]; omega) (by omega) hl))
                rw [nil_app] at hl
                have ed : S.extract i (i + 0) ++ (nm ++ nn) ++ S.extract ny (i + z) = nm ++ nn ++ S.extract ny (i + z) := by rw [ext_same, nil_app]
                by_cases hc : Rd.mayD 6 (nm ++ nn ++ S.extract ny (i + z)) = true
                · have hR := soa_rest hn hn2 hc
                  rw [ByteArray.size_extract] at hR
                  rw [if_pos ⟨hc, .inr (.inl rfl)⟩] at hl
                  have hg := data_names (a := 0) (more := 20) (q := ny) hS (by rw [ByteArray.size_append]; omega) h2 shape_6 (by decide) (by omega) hq (by omega) (by rw [ed]; exact hc)
                  rw [ed] at hg
                  exact ⟨_, _, hg, hl⟩
                · rw [if_neg (fun h => hc h.1)] at hl
                  refine ⟨_, _, data_names_no (a := 0) (more := 20) hS (by rw [ByteArray.size_append]; omega) h2 (by decide) (by decide) shape_6 (by decide) hq (fun _ => ⟨ny, rfl, h6, fun e _ => ?_⟩), hl⟩
                  rw [ed]
                  cases hm : Rd.mayD 6 (nm ++ nn ++ S.extract ny (i + z)) with
                  | false => rfl
                  | true => exact absurd hm hc
        · have hsh := shape_0 (fun e => k1 (.inl e)) (fun e => k1 (.inr (.inl e))) (fun e => k1 (.inr (.inr e))) k2 k3
          have hl := rd_end (S := S) (out := (⟨#[]⟩ : ByteArray)) (i := i) (z := z) (fr := i) (t := t) (many := 0) (c := 0) hS (by decide) (by omega) h2 (by decide)
          have hl := j0 _ (Ev.step (fun k => by rw [wimpleref4_Data.j1]) (Ev.neg (by decide) (Ev.neg k2 (Ev.neg k3 (Ev.step (fun k => by rw [wimpleref4_Data.j2]) hl)))))
          rw [nil_app] at hl
          by_cases hm : Rd.mayD t (S.extract i (i + z)) = true
          · rw [if_pos ⟨hm, .inl (by decide)⟩] at hl
            exact ⟨_, _, data_plain hS h2 hsh hm, hl⟩
          · rw [if_neg (fun h => hm h.1)] at hl
            exact ⟨_, _, data_plain_no hS h2 hsh (by simpa using hm), hl⟩
  · exact ⟨_, _, data_out hS (by omega) (by omega) (by omega), rd_out hS (by omega)⟩
end Go.Proofs.Ytjklgdpffmaamaa.Wm

namespace Go.Proofs.Ytjklgdpffmaamaa.Wm
open Go.RowKit Go.PlainAid Go.Maps Go.Proofs.Ytjklgdpffmaamaa.Base Go.Proofs.Ytjklgdpffmaamaa.Oct Go.Proofs.Ytjklgdpffmaamaa.Nm
open Go.Proofs.YtjklgdpffmaamaaW.PrintWords (blk_cell blk_below blk_put blk_frozen blk_ne blk_new blk_lt blk_grown LeO own_nil own_ne own_other own_setCell)
set_option linter.unusedVariables false
structure Got where
  h : Hd.Head
  qs : List Qn
  an : List Rr
  ns : List Rr
  ar : List Rr
  e : Int
def got0 (e : Int) : Got := ⟨Hd.head0, [], [], [], [], e⟩
/-- What is read. -/
def getV (k : Nat) (s : ByteArray) : Option Got :=
  if 4096 < s.size then some (got0 701) else if s.size < 12 then some (got0 700) else
    (listQ k s (be2 s 4).toNat ⟨12, false⟩).bind fun q => (listR k s (be2 s 6).toNat q.2).bind fun a => (listR k s (be2 s 8).toNat a.2).bind fun b => (listR k s (be2 s 10).toNat b.2).bind fun c =>
      if c.2.bad || c.2.at_ != (s.size : Int) then some (got0 700) else some ⟨Hd.getH s, q.1, a.1, b.1, c.1, 0⟩
abbrev mz : Array Value := #[.int .i64 0, .bool false, .int .i64 0, .bool false, .bool false, .bool false, .bool false, .int .i64 0, .int .i64 0, .slice none 0 0, .slice none 0 0, .slice none 0 0, .slice none 0 0]
/-- What the answer is, and where its rows lie. -/
def GetPost (s : ByteArray) (w : World) (r : Got) (e : Ending) (w' : World) : Prop :=
  ∃ vq va vn vr, e = .returned (.tuple #[.agg #[.int .i64 r.h.id, .bool r.h.qr, .int .i64 r.h.op, .bool r.h.aa, .bool r.h.tc, .bool r.h.rd, .bool r.h.ra, .int .i64 r.h.z, .int .i64 r.h.rc, vq, va, vn, vr], .int .i64 r.e]) ∧
    w'.ownsRow w.heap.size 40 3 vq r.qs.length (cellsQ r.qs) ∧ w'.ownsRow w.heap.size 53 5 va r.an.length (cellsR r.an) ∧ w'.ownsRow w.heap.size 53 5 vn r.ns.length (cellsR r.ns) ∧ w'.ownsRow w.heap.size 53 5 vr r.ar.length (cellsR r.ar) ∧
    (∀ k, va.ownBlock = some k → some k ≠ vn.ownBlock ∧ some k ≠ vr.ownBlock) ∧ (∀ k, vn.ownBlock = some k → some k ≠ va.ownBlock ∧ some k ≠ vr.ownBlock) ∧ (∀ k, vr.ownBlock = some k → some k ≠ va.ownBlock ∧ some k ≠ vn.ownBlock) ∧ Below w.heap.size w w'
theorem post0 (s : ByteArray) (w w' : World) (e : Int) (hb : Below w.heap.size w w') : GetPost s w (got0 e) (.returned (.tuple #[.agg mz, .int .i64 e])) w' :=
  ⟨_, _, _, _, rfl, own_nil _ _ _ _, own_nil _ _ _ _, own_nil _ _ _ _, own_nil _ _ _ _, fun k h => by simp [Value.ownBlock] at h, fun k h => by simp [Value.ownBlock] at h, fun k h => by simp [Value.ownBlock] at h, hb⟩
/-- Values written one behind the other into a block. -/
def putAll (w : World) (g : Nat) : Nat → List Value → World
  | _, [] => w
  | i, v :: vs => putAll (w.setCell ⟨g, i, none⟩ v) g (i + 1) vs
def setAll (cs : Array Value) : Nat → List Value → Array Value
  | _, [] => cs
  | i, v :: vs => setAll (cs.setIfInBounds i v) (i + 1) vs
theorem putAll_blk {w : World} {g : Nat} {t : TypeId} {cs : Array Value} (i : Nat) (vs : List Value) (cs' : Array Value) (h : w.heap[g]? = some (.cells cs t (0, 0))) (e : setAll cs i vs = cs' := by rfl) : (putAll w g i vs).heap[g]? = some (.cells cs' t (0, 0)) := by
  subst e
  induction vs generalizing w i cs with
  | nil => exact h
  | cons v vs ih => exact ih (i + 1) (blk_put h i v rfl)
theorem putAll_own {w : World} {g b : Nat} {e : TypeId} {size n : Nat} {v : Value} {xs : List Value} (i : Nat) (vs : List Value) (h : w.ownsRow b e size v n xs) (hne : some g ≠ v.ownBlock) : (putAll w g i vs).ownsRow b e size v n xs := by
  induction vs generalizing w i with
  | nil => exact h
  | cons u vs ih => exact ih (i + 1) (own_setCell (p := ⟨g, i, none⟩) h hne u)
theorem putAll_grown {w0 w : World} {g : Nat} {row : Option Nat} (i : Nat) (vs : List Value) (h : w0.grownBy w row) (hg : w0.heap.size ≤ g) : w0.grownBy (putAll w g i vs) row := by
  induction vs generalizing w i with
  | nil => exact h
  | cons u vs ih => exact ih (i + 1) (grown_far (p := ⟨g, i, none⟩) h hg u)
theorem own_lower {w : World} {b b' : Nat} {e : TypeId} {size n : Nat} {v : Value} {xs : List Value} (h : w.ownsRow b e size v n xs) (hb : b' ≤ b) : w.ownsRow b' e size v n xs := by
  refine ⟨h.1, ?_⟩
  rcases h.2 with h2 | ⟨k, cap, cur, rfl, hg, r⟩
  · exact .inl h2
  · exact .inr ⟨k, cap, cur, rfl, Nat.le_trans hb hg, r⟩
theorem own_lt {w : World} {b : Nat} {e : TypeId} {size n : Nat} {v : Value} {xs : List Value} (h : w.ownsRow b e size v n xs) (k : Nat) (hk : v.ownBlock = some k) : k < w.heap.size := by
  obtain ⟨cs, hb⟩ := Go.Proofs.YtjklgdpffmaamaaW.PrintWords.own_typed h k hk
  exact blk_lt hb
end Go.Proofs.Ytjklgdpffmaamaa.Wm

namespace Go.Proofs.Ytjklgdpffmaamaa.Wm
open Go.RowKit Go.PlainAid Go.Maps Go.Proofs.Ytjklgdpffmaamaa.Base Go.Proofs.Ytjklgdpffmaamaa.Oct Go.Proofs.Ytjklgdpffmaamaa.Nm
open Go.Proofs.YtjklgdpffmaamaaW.PrintWords (blk_cell blk_below blk_put blk_frozen blk_ne blk_new blk_lt blk_grown LeO own_nil own_ne own_other own_setCell)
set_option linter.unusedVariables false
/-- So many questions that the document reads from a place on; none: one was none. -/
def rQ (k : Nat) (s : ByteArray) : Nat → Int → List Qn → Option (Option (List Qn × Int))
  | 0, a, acc => some (some (acc, a))
  | n + 1, a, acc => (PRf.wimpleref4_question.f k s a).bind fun x => if x.2.2.2.2 = true then rQ k s n x.2.2.2.1 (acc ++ [⟨x.1, x.2.1, x.2.2.1⟩]) else some none
def rR (k : Nat) (s : ByteArray) : Nat → Int → List Rr → Option (Option (List Rr × Int))
  | 0, a, acc => some (some (acc, a))
  | n + 1, a, acc => (PRf.wimpleref4_record.f k s a).bind fun x => if x.2.2.2.2.2.2 = true then rR k s n x.2.2.2.2.2.1 (acc ++ [⟨x.1, x.2.1, x.2.2.1, x.2.2.2.1, x.2.2.2.2.1⟩]) else some none
/-- What a part's reading leads to. -/
def andThen {α : Type} (x : Option (Option α)) (f : α → Option Got) : Option Got := x.bind fun y => match y with
  | none => some (got0 700)
  | some z => f z
theorem andThen_none {α : Type} {x : Option (Option α)} {f : α → Option Got} {r : Got} (hx : x = some none) (h : andThen x f = some r) : got0 700 = r := by subst hx; exact Option.some.inj h
theorem andThen_some {α : Type} {x : Option (Option α)} {f : α → Option Got} {r : Got} {z : α} (hx : x = some (some z)) (h : andThen x f = some r) : f z = some r := by subst hx; exact h
theorem andThen_is {α : Type} {x : Option (Option α)} {f : α → Option Got} {r : Got} (h : andThen x f = some r) : ∃ y, x = some y := by
  cases x with
  | none => cases h
  | some y => exact ⟨y, rfl⟩
def many4 (x : Int) (f : Option Got) : Option Got := if 64 < x then some (got0 700) else f
/-- What the document reads. -/
def rGetV (k : Nat) (s : ByteArray) : Option Got :=
  if 4096 < s.size then some (got0 701) else if s.size < 12 then some (got0 700) else
    many4 (be2 s 4) (andThen (rQ k s (be2 s 4).toNat 12 []) fun q => many4 (be2 s 6) (andThen (rR k s (be2 s 6).toNat q.2 []) fun a => many4 (be2 s 8) (andThen (rR k s (be2 s 8).toNat a.2 []) fun b => many4 (be2 s 10) (andThen (rR k s (be2 s 10).toNat b.2 []) fun c =>
      if c.2 != (s.size : Int) then some (got0 700) else some ⟨Hd.getH s, q.1, a.1, b.1, c.1, 0⟩))))
set_option maxHeartbeats 8000000 in
set_option maxRecDepth 100000 in
theorem rgetc (s : ByteArray) (w : World) (hs : s.size ≤ 9223372036854775000) {k : Nat} {r : Got} (hq : rGetV k s = some r) : Calls Try.prog 25 #[.string s] w (GetPost s w r) := by
  have HQ := Lib.hid hq
  clear hq
  by_cases h4 : 4096 < s.size
  · have hr : r = got0 701 := by have := HQ.out; unfold rGetV at this; rw [if_pos h4] at this; exact (Option.some.inj this).symm
    subst hr
    have q : decide ((4096 : Int) < (s.size : Int)) = true := by simp; omega
    have pz := blk_new w (.cells mz 27)
    go_enter Try.func25, Try.ntmps25
    go_wp2
    have e0 := (blk_cell pz 0).trans rfl
    have e1 := (blk_cell pz 1).trans rfl
    have e2 := (blk_cell pz 2).trans rfl
    have e3 := (blk_cell pz 3).trans rfl
    have e4 := (blk_cell pz 4).trans rfl
    have e5 := (blk_cell pz 5).trans rfl
    have e6 := (blk_cell pz 6).trans rfl
    have e7 := (blk_cell pz 7).trans rfl
    have e8 := (blk_cell pz 8).trans rfl
    have e9 := (blk_cell pz 9).trans rfl
    have e10 := (blk_cell pz 10).trans rfl
    have e11 := (blk_cell pz 11).trans rfl
    have e12 := (blk_cell pz 12).trans rfl
    exact bodyPost_ret (v := .tuple #[.agg mz, .int .i64 701]) (by simp [results, Try.results25, go_sem, e0, e1, e2, e3, e4, e5, e6, e7, e8, e9, e10, e11, e12]) rfl (post0 s w _ 701 ((Below.refl _ _).alloc (Nat.le_refl _) _))
  · have q : decide ((4096 : Int) < (s.size : Int)) = false := by simp; omega
    have Bp : Below w.heap.size w (w.alloc (.cells mz 27)) := (Below.refl _ _).alloc (Nat.le_refl _) _
    have pz := blk_new w (.cells mz 27)
    have sp : (w.alloc (.cells mz 27)).heap.size = w.heap.size + 1 := by simp
    have kg := Hd.rgot s (w.alloc (.cells mz 27)) hs
    by_cases h12 : s.size < 12
    · have hr : r = got0 700 := by have := HQ.out; unfold rGetV at this; rw [if_neg h4, if_pos h12] at this; exact (Option.some.inj this).symm
      subst hr
      have hE : Hd.gotE s = 600 := Hd.gotE_no (by omega)
      rw [hE] at kg
      clear HQ
      go_enter Try.func25, Try.ntmps25
      go_wp2_with fail
      refine kg.mono ?_
      rintro e w1 ⟨rfl, B1⟩
      have p1 := blk_below pz B1
      have BB := Bp.trans (B1.mono (by omega))
      clear kg pz Bp B1
      have pp : ((w1.alloc (.cells #[.int .i64 (Hd.gotH s).id, .bool (Hd.gotH s).qr, .int .i64 (Hd.gotH s).op, .bool (Hd.gotH s).aa, .bool (Hd.gotH s).tc, .bool (Hd.gotH s).rd, .bool (Hd.gotH s).ra, .int .i64 (Hd.gotH s).z, .int .i64 (Hd.gotH s).rc] 23)).alloc (.cells #[.int .i64 (Hd.gotC s 4), .int .i64 (Hd.gotC s 6), .int .i64 (Hd.gotC s 8), .int .i64 (Hd.gotC s 10)] 80)).heap[w.heap.size]? = some (.cells mz 27 (0, 0)) := Go.Proofs.YtjklgdpffmaamaaW.PrintWords.blk_alloc (Go.Proofs.YtjklgdpffmaamaaW.PrintWords.blk_alloc p1 _) _
      have x0 : ((w1.alloc (.cells #[.int .i64 (Hd.gotH s).id, .bool (Hd.gotH s).qr, .int .i64 (Hd.gotH s).op, .bool (Hd.gotH s).aa, .bool (Hd.gotH s).tc, .bool (Hd.gotH s).rd, .bool (Hd.gotH s).ra, .int .i64 (Hd.gotH s).z, .int .i64 (Hd.gotH s).rc] 23)).alloc (.cells #[.int .i64 (Hd.gotC s 4), .int .i64 (Hd.gotC s 6), .int .i64 (Hd.gotC s 8), .int .i64 (Hd.gotC s 10)] 80)).cell? ⟨w.heap.size, 0, none⟩ = some (.int .i64 0) := (blk_cell pp 0).trans rfl
      have x1 : ((w1.alloc (.cells #[.int .i64 (Hd.gotH s).id, .bool (Hd.gotH s).qr, .int .i64 (Hd.gotH s).op, .bool (Hd.gotH s).aa, .bool (Hd.gotH s).tc, .bool (Hd.gotH s).rd, .bool (Hd.gotH s).ra, .int .i64 (Hd.gotH s).z, .int .i64 (Hd.gotH s).rc] 23)).alloc (.cells #[.int .i64 (Hd.gotC s 4), .int .i64 (Hd.gotC s 6), .int .i64 (Hd.gotC s 8), .int .i64 (Hd.gotC s 10)] 80)).cell? ⟨w.heap.size, 1, none⟩ = some (.bool false) := (blk_cell pp 1).trans rfl
      have x2 : ((w1.alloc (.cells #[.int .i64 (Hd.gotH s).id, .bool (Hd.gotH s).qr, .int .i64 (Hd.gotH s).op, .bool (Hd.gotH s).aa, .bool (Hd.gotH s).tc, .bool (Hd.gotH s).rd, .bool (Hd.gotH s).ra, .int .i64 (Hd.gotH s).z, .int .i64 (Hd.gotH s).rc] 23)).alloc (.cells #[.int .i64 (Hd.gotC s 4), .int .i64 (Hd.gotC s 6), .int .i64 (Hd.gotC s 8), .int .i64 (Hd.gotC s 10)] 80)).cell? ⟨w.heap.size, 2, none⟩ = some (.int .i64 0) := (blk_cell pp 2).trans rfl
      have x3 : ((w1.alloc (.cells #[.int .i64 (Hd.gotH s).id, .bool (Hd.gotH s).qr, .int .i64 (Hd.gotH s).op, .bool (Hd.gotH s).aa, .bool (Hd.gotH s).tc, .bool (Hd.gotH s).rd, .bool (Hd.gotH s).ra, .int .i64 (Hd.gotH s).z, .int .i64 (Hd.gotH s).rc] 23)).alloc (.cells #[.int .i64 (Hd.gotC s 4), .int .i64 (Hd.gotC s 6), .int .i64 (Hd.gotC s 8), .int .i64 (Hd.gotC s 10)] 80)).cell? ⟨w.heap.size, 3, none⟩ = some (.bool false) := (blk_cell pp 3).trans rfl
      have x4 : ((w1.alloc (.cells #[.int .i64 (Hd.gotH s).id, .bool (Hd.gotH s).qr, .int .i64 (Hd.gotH s).op, .bool (Hd.gotH s).aa, .bool (Hd.gotH s).tc, .bool (Hd.gotH s).rd, .bool (Hd.gotH s).ra, .int .i64 (Hd.gotH s).z, .int .i64 (Hd.gotH s).rc] 23)).alloc (.cells #[.int .i64 (Hd.gotC s 4), .int .i64 (Hd.gotC s 6), .int .i64 (Hd.gotC s 8), .int .i64 (Hd.gotC s 10)] 80)).cell? ⟨w.heap.size, 4, none⟩ = some (.bool false) := (blk_cell pp 4).trans rfl
      have x5 : ((w1.alloc (.cells #[.int .i64 (Hd.gotH s).id, .bool (Hd.gotH s).qr, .int .i64 (Hd.gotH s).op, .bool (Hd.gotH s).aa, .bool (Hd.gotH s).tc, .bool (Hd.gotH s).rd, .bool (Hd.gotH s).ra, .int .i64 (Hd.gotH s).z, .int .i64 (Hd.gotH s).rc] 23)).alloc (.cells #[.int .i64 (Hd.gotC s 4), .int .i64 (Hd.gotC s 6), .int .i64 (Hd.gotC s 8), .int .i64 (Hd.gotC s 10)] 80)).cell? ⟨w.heap.size, 5, none⟩ = some (.bool false) := (blk_cell pp 5).trans rfl
      have x6 : ((w1.alloc (.cells #[.int .i64 (Hd.gotH s).id, .bool (Hd.gotH s).qr, .int .i64 (Hd.gotH s).op, .bool (Hd.gotH s).aa, .bool (Hd.gotH s).tc, .bool (Hd.gotH s).rd, .bool (Hd.gotH s).ra, .int .i64 (Hd.gotH s).z, .int .i64 (Hd.gotH s).rc] 23)).alloc (.cells #[.int .i64 (Hd.gotC s 4), .int .i64 (Hd.gotC s 6), .int .i64 (Hd.gotC s 8), .int .i64 (Hd.gotC s 10)] 80)).cell? ⟨w.heap.size, 6, none⟩ = some (.bool false) := (blk_cell pp 6).trans rfl
      have x7 : ((w1.alloc (.cells #[.int .i64 (Hd.gotH s).id, .bool (Hd.gotH s).qr, .int .i64 (Hd.gotH s).op, .bool (Hd.gotH s).aa, .bool (Hd.gotH s).tc, .bool (Hd.gotH s).rd, .bool (Hd.gotH s).ra, .int .i64 (Hd.gotH s).z, .int .i64 (Hd.gotH s).rc] 23)).alloc (.cells #[.int .i64 (Hd.gotC s 4), .int .i64 (Hd.gotC s 6), .int .i64 (Hd.gotC s 8), .int .i64 (Hd.gotC s 10)] 80)).cell? ⟨w.heap.size, 7, none⟩ = some (.int .i64 0) := (blk_cell pp 7).trans rfl
      have x8 : ((w1.alloc (.cells #[.int .i64 (Hd.gotH s).id, .bool (Hd.gotH s).qr, .int .i64 (Hd.gotH s).op, .bool (Hd.gotH s).aa, .bool (Hd.gotH s).tc, .bool (Hd.gotH s).rd, .bool (Hd.gotH s).ra, .int .i64 (Hd.gotH s).z, .int .i64 (Hd.gotH s).rc] 23)).alloc (.cells #[.int .i64 (Hd.gotC s 4), .int .i64 (Hd.gotC s 6), .int .i64 (Hd.gotC s 8), .int .i64 (Hd.gotC s 10)] 80)).cell? ⟨w.heap.size, 8, none⟩ = some (.int .i64 0) := (blk_cell pp 8).trans rfl
      have x9 : ((w1.alloc (.cells #[.int .i64 (Hd.gotH s).id, .bool (Hd.gotH s).qr, .int .i64 (Hd.gotH s).op, .bool (Hd.gotH s).aa, .bool (Hd.gotH s).tc, .bool (Hd.gotH s).rd, .bool (Hd.gotH s).ra, .int .i64 (Hd.gotH s).z, .int .i64 (Hd.gotH s).rc] 23)).alloc (.cells #[.int .i64 (Hd.gotC s 4), .int .i64 (Hd.gotC s 6), .int .i64 (Hd.gotC s 8), .int .i64 (Hd.gotC s 10)] 80)).cell? ⟨w.heap.size, 9, none⟩ = some (.slice none 0 0) := (blk_cell pp 9).trans rfl
      have x10 : ((w1.alloc (.cells #[.int .i64 (Hd.gotH s).id, .bool (Hd.gotH s).qr, .int .i64 (Hd.gotH s).op, .bool (Hd.gotH s).aa, .bool (Hd.gotH s).tc, .bool (Hd.gotH s).rd, .bool (Hd.gotH s).ra, .int .i64 (Hd.gotH s).z, .int .i64 (Hd.gotH s).rc] 23)).alloc (.cells #[.int .i64 (Hd.gotC s 4), .int .i64 (Hd.gotC s 6), .int .i64 (Hd.gotC s 8), .int .i64 (Hd.gotC s 10)] 80)).cell? ⟨w.heap.size, 10, none⟩ = some (.slice none 0 0) := (blk_cell pp 10).trans rfl
      have x11 : ((w1.alloc (.cells #[.int .i64 (Hd.gotH s).id, .bool (Hd.gotH s).qr, .int .i64 (Hd.gotH s).op, .bool (Hd.gotH s).aa, .bool (Hd.gotH s).tc, .bool (Hd.gotH s).rd, .bool (Hd.gotH s).ra, .int .i64 (Hd.gotH s).z, .int .i64 (Hd.gotH s).rc] 23)).alloc (.cells #[.int .i64 (Hd.gotC s 4), .int .i64 (Hd.gotC s 6), .int .i64 (Hd.gotC s 8), .int .i64 (Hd.gotC s 10)] 80)).cell? ⟨w.heap.size, 11, none⟩ = some (.slice none 0 0) := (blk_cell pp 11).trans rfl
      have x12 : ((w1.alloc (.cells #[.int .i64 (Hd.gotH s).id, .bool (Hd.gotH s).qr, .int .i64 (Hd.gotH s).op, .bool (Hd.gotH s).aa, .bool (Hd.gotH s).tc, .bool (Hd.gotH s).rd, .bool (Hd.gotH s).ra, .int .i64 (Hd.gotH s).z, .int .i64 (Hd.gotH s).rc] 23)).alloc (.cells #[.int .i64 (Hd.gotC s 4), .int .i64 (Hd.gotC s 6), .int .i64 (Hd.gotC s 8), .int .i64 (Hd.gotC s 10)] 80)).cell? ⟨w.heap.size, 12, none⟩ = some (.slice none 0 0) := (blk_cell pp 12).trans rfl
      have y0 := blk_frozen pp 0
      have y1 := blk_frozen pp 1
      have y2 := blk_frozen pp 2
      have y3 := blk_frozen pp 3
      have y4 := blk_frozen pp 4
      have y5 := blk_frozen pp 5
      have y6 := blk_frozen pp 6
      have y7 := blk_frozen pp 7
      have y8 := blk_frozen pp 8
      have y9 := blk_frozen pp 9
      have y10 := blk_frozen pp 10
      have y11 := blk_frozen pp 11
      have y12 := blk_frozen pp 12
      have pF := putAll_blk 0 [.int .i64 0, .bool false, .int .i64 0, .bool false, .bool false, .bool false, .bool false, .int .i64 0, .int .i64 0, .slice none 0 0, .slice none 0 0, .slice none 0 0, .slice none 0 0] mz pp (by simp [setAll])
      have GF := putAll_grown (row := none) 0 [.int .i64 0, .bool false, .int .i64 0, .bool false, .bool false, .bool false, .bool false, .int .i64 0, .int .i64 0, .slice none 0 0, .slice none 0 0, .slice none 0 0, .slice none 0 0] (grown_below (BB.trans (((Below.refl w1.heap.size w1).alloc (Nat.le_refl _) (.cells #[.int .i64 (Hd.gotH s).id, .bool (Hd.gotH s).qr, .int .i64 (Hd.gotH s).op, .bool (Hd.gotH s).aa, .bool (Hd.gotH s).tc, .bool (Hd.gotH s).rd, .bool (Hd.gotH s).ra, .int .i64 (Hd.gotH s).z, .int .i64 (Hd.gotH s).rc] 23)).alloc (by simp) (.cells #[.int .i64 (Hd.gotC s 4), .int .i64 (Hd.gotC s 6), .int .i64 (Hd.gotC s 8), .int .i64 (Hd.gotC s 10)] 80) |>.mono BB.size)) none) (Nat.le_refl _)
      simp only [putAll] at pF GF
      have e0 := (blk_cell pF 0).trans rfl
      have e1 := (blk_cell pF 1).trans rfl
      have e2 := (blk_cell pF 2).trans rfl
      have e3 := (blk_cell pF 3).trans rfl
      have e4 := (blk_cell pF 4).trans rfl
      have e5 := (blk_cell pF 5).trans rfl
      have e6 := (blk_cell pF 6).trans rfl
      have e7 := (blk_cell pF 7).trans rfl
      have e8 := (blk_cell pF 8).trans rfl
      have e9 := (blk_cell pF 9).trans rfl
      have e10 := (blk_cell pF 10).trans rfl
      have e11 := (blk_cell pF 11).trans rfl
      have e12 := (blk_cell pF 12).trans rfl
      go_wp2
      exact bodyPost_ret (v := .tuple #[.agg mz, .int .i64 700]) (by simp [results, Try.results25, go_sem, e0, e1, e2, e3, e4, e5, e6, e7, e8, e9, e10, e11, e12]) rfl (post0 s w _ 700 ⟨GF.os, GF.tape, GF.output, GF.size, fun k hk => GF.block k hk (by simp)⟩)
    · have hr := HQ.out
      unfold rGetV at hr
      rw [if_neg h4, if_neg h12] at hr
      have HR := Lib.hid hr
      have hE : Hd.gotE s = 0 := Hd.gotE_yes (by omega)
      have hC := fun k => Hd.gotC_yes (s := s) (by omega) k
      rw [hE, Hd.gotH_yes (by omega), hC, hC, hC, hC] at kg
      clear HQ hr hE hC
      go_enter Try.func25, Try.ntmps25
      go_wp2_with fail
      refine kg.mono ?_
      rintro e w1 ⟨rfl, B1⟩
      have p1 := blk_below pz B1
      have BB := Bp.trans (B1.mono (by omega))
      have hzz : w.heap.size < w1.heap.size := by have := B1.size; omega
      clear kg pz Bp B1 sp
      go_wp2_with fail
      refine wp_loop_rounds 5 ?_
      have B0 : Below w1.heap.size w1 (((w1.alloc (.cells #[.int .i64 (Hd.getH s).id, .bool (Hd.getH s).qr, .int .i64 (Hd.getH s).op, .bool (Hd.getH s).aa, .bool (Hd.getH s).tc, .bool (Hd.getH s).rd, .bool (Hd.getH s).ra, .int .i64 (Hd.getH s).z, .int .i64 (Hd.getH s).rc] 23)).alloc (.cells #[.int .i64 (be2 s 4), .int .i64 (be2 s 6), .int .i64 (be2 s 8), .int .i64 (be2 s 10)] 80)).alloc (.cells #[.int .i64 (Hd.getH s).id, .bool (Hd.getH s).qr, .int .i64 (Hd.getH s).op, .bool (Hd.getH s).aa, .bool (Hd.getH s).tc, .bool (Hd.getH s).rd, .bool (Hd.getH s).ra, .int .i64 (Hd.getH s).z, .int .i64 (Hd.getH s).rc, .slice none 0 0, .slice none 0 0, .slice none 0 0, .slice none 0 0] 27)) := (((Below.refl _ _).alloc (Nat.le_refl _) _).alloc (by simp) _).alloc (by simp; omega) _
      have bc : (((w1.alloc (.cells #[.int .i64 (Hd.getH s).id, .bool (Hd.getH s).qr, .int .i64 (Hd.getH s).op, .bool (Hd.getH s).aa, .bool (Hd.getH s).tc, .bool (Hd.getH s).rd, .bool (Hd.getH s).ra, .int .i64 (Hd.getH s).z, .int .i64 (Hd.getH s).rc] 23)).alloc (.cells #[.int .i64 (be2 s 4), .int .i64 (be2 s 6), .int .i64 (be2 s 8), .int .i64 (be2 s 10)] 80)).alloc (.cells #[.int .i64 (Hd.getH s).id, .bool (Hd.getH s).qr, .int .i64 (Hd.getH s).op, .bool (Hd.getH s).aa, .bool (Hd.getH s).tc, .bool (Hd.getH s).rd, .bool (Hd.getH s).ra, .int .i64 (Hd.getH s).z, .int .i64 (Hd.getH s).rc, .slice none 0 0, .slice none 0 0, .slice none 0 0, .slice none 0 0] 27)).heap[w1.heap.size + 1]? = some (.cells #[.int .i64 (be2 s 4), .int .i64 (be2 s 6), .int .i64 (be2 s 8), .int .i64 (be2 s 10)] 80 (0, 0)) := by
        refine Go.Proofs.YtjklgdpffmaamaaW.PrintWords.blk_alloc ?_ _
        have := blk_new (w1.alloc (.cells #[.int .i64 (Hd.getH s).id, .bool (Hd.getH s).qr, .int .i64 (Hd.getH s).op, .bool (Hd.getH s).aa, .bool (Hd.getH s).tc, .bool (Hd.getH s).rd, .bool (Hd.getH s).ra, .int .i64 (Hd.getH s).z, .int .i64 (Hd.getH s).rc] 23)) (.cells #[.int .i64 (be2 s 4), .int .i64 (be2 s 6), .int .i64 (be2 s 8), .int .i64 (be2 s 10)] 80)
        simpa using this
      have bm : (((w1.alloc (.cells #[.int .i64 (Hd.getH s).id, .bool (Hd.getH s).qr, .int .i64 (Hd.getH s).op, .bool (Hd.getH s).aa, .bool (Hd.getH s).tc, .bool (Hd.getH s).rd, .bool (Hd.getH s).ra, .int .i64 (Hd.getH s).z, .int .i64 (Hd.getH s).rc] 23)).alloc (.cells #[.int .i64 (be2 s 4), .int .i64 (be2 s 6), .int .i64 (be2 s 8), .int .i64 (be2 s 10)] 80)).alloc (.cells #[.int .i64 (Hd.getH s).id, .bool (Hd.getH s).qr, .int .i64 (Hd.getH s).op, .bool (Hd.getH s).aa, .bool (Hd.getH s).tc, .bool (Hd.getH s).rd, .bool (Hd.getH s).ra, .int .i64 (Hd.getH s).z, .int .i64 (Hd.getH s).rc, .slice none 0 0, .slice none 0 0, .slice none 0 0, .slice none 0 0] 27)).heap[w1.heap.size + 1 + 1]? = some (.cells #[.int .i64 (Hd.getH s).id, .bool (Hd.getH s).qr, .int .i64 (Hd.getH s).op, .bool (Hd.getH s).aa, .bool (Hd.getH s).tc, .bool (Hd.getH s).rd, .bool (Hd.getH s).ra, .int .i64 (Hd.getH s).z, .int .i64 (Hd.getH s).rc, .slice none 0 0, .slice none 0 0, .slice none 0 0, .slice none 0 0] 27 (0, 0)) := by
        have := blk_new ((w1.alloc (.cells #[.int .i64 (Hd.getH s).id, .bool (Hd.getH s).qr, .int .i64 (Hd.getH s).op, .bool (Hd.getH s).aa, .bool (Hd.getH s).tc, .bool (Hd.getH s).rd, .bool (Hd.getH s).ra, .int .i64 (Hd.getH s).z, .int .i64 (Hd.getH s).rc] 23)).alloc (.cells #[.int .i64 (be2 s 4), .int .i64 (be2 s 6), .int .i64 (be2 s 8), .int .i64 (be2 s 10)] 80)) (.cells #[.int .i64 (Hd.getH s).id, .bool (Hd.getH s).qr, .int .i64 (Hd.getH s).op, .bool (Hd.getH s).aa, .bool (Hd.getH s).tc, .bool (Hd.getH s).rd, .bool (Hd.getH s).ra, .int .i64 (Hd.getH s).z, .int .i64 (Hd.getH s).rc, .slice none 0 0, .slice none 0 0, .slice none 0 0, .slice none 0 0] 27)
        simpa using this
      have p0 := blk_below p1 B0
      have BB0 := BB.trans (B0.mono BB.size)
      have hcm : w1.heap.size + 1 ≠ w1.heap.size + 1 + 1 := by omega
      have hpm : w.heap.size ≠ w1.heap.size + 1 + 1 := by omega
      have hkm : w.heap.size ≤ w1.heap.size + 1 + 1 := by omega
      clear p1 BB B0 hzz
      generalize (((w1.alloc (.cells #[.int .i64 (Hd.getH s).id, .bool (Hd.getH s).qr, .int .i64 (Hd.getH s).op, .bool (Hd.getH s).aa, .bool (Hd.getH s).tc, .bool (Hd.getH s).rd, .bool (Hd.getH s).ra, .int .i64 (Hd.getH s).z, .int .i64 (Hd.getH s).rc] 23)).alloc (.cells #[.int .i64 (be2 s 4), .int .i64 (be2 s 6), .int .i64 (be2 s 8), .int .i64 (be2 s 10)] 80)).alloc (.cells #[.int .i64 (Hd.getH s).id, .bool (Hd.getH s).qr, .int .i64 (Hd.getH s).op, .bool (Hd.getH s).aa, .bool (Hd.getH s).tc, .bool (Hd.getH s).rd, .bool (Hd.getH s).ra, .int .i64 (Hd.getH s).z, .int .i64 (Hd.getH s).rc, .slice none 0 0, .slice none 0 0, .slice none 0 0, .slice none 0 0] 27)) = W0 at *
      generalize w1.heap.size + 1 + 1 = km at *
      generalize w1.heap.size + 1 = kc at *
      have bd0 := be2_bd s 4
      have cx0 : W0.cell? ⟨kc, 0, none⟩ = some (.int .i64 (be2 s 4)) := (blk_cell bc 0).trans rfl
      rw [rounds_succ]
      have hr0 := HR.out
      by_cases big0 : 64 < be2 s 4
      · have hr : got0 700 = r := by unfold many4 at hr0; rw [if_pos big0] at hr0; exact Option.some.inj hr0
        subst hr
        clear hr0
        have bq : decide ((64 : Int) < be2 s 4) = true := decide_eq_true big0
        have x0 : W0.cell? ⟨w.heap.size, 0, none⟩ = some (.int .i64 0) := (blk_cell p0 0).trans rfl
        have x1 : W0.cell? ⟨w.heap.size, 1, none⟩ = some (.bool false) := (blk_cell p0 1).trans rfl
        have x2 : W0.cell? ⟨w.heap.size, 2, none⟩ = some (.int .i64 0) := (blk_cell p0 2).trans rfl
        have x3 : W0.cell? ⟨w.heap.size, 3, none⟩ = some (.bool false) := (blk_cell p0 3).trans rfl
        have x4 : W0.cell? ⟨w.heap.size, 4, none⟩ = some (.bool false) := (blk_cell p0 4).trans rfl
        have x5 : W0.cell? ⟨w.heap.size, 5, none⟩ = some (.bool false) := (blk_cell p0 5).trans rfl
        have x6 : W0.cell? ⟨w.heap.size, 6, none⟩ = some (.bool false) := (blk_cell p0 6).trans rfl
        have x7 : W0.cell? ⟨w.heap.size, 7, none⟩ = some (.int .i64 0) := (blk_cell p0 7).trans rfl
        have x8 : W0.cell? ⟨w.heap.size, 8, none⟩ = some (.int .i64 0) := (blk_cell p0 8).trans rfl
        have x9 : W0.cell? ⟨w.heap.size, 9, none⟩ = some (.slice none 0 0) := (blk_cell p0 9).trans rfl
        have x10 : W0.cell? ⟨w.heap.size, 10, none⟩ = some (.slice none 0 0) := (blk_cell p0 10).trans rfl
        have x11 : W0.cell? ⟨w.heap.size, 11, none⟩ = some (.slice none 0 0) := (blk_cell p0 11).trans rfl
        have x12 : W0.cell? ⟨w.heap.size, 12, none⟩ = some (.slice none 0 0) := (blk_cell p0 12).trans rfl
        have y0 := blk_frozen p0 0
        have y1 := blk_frozen p0 1
        have y2 := blk_frozen p0 2
        have y3 := blk_frozen p0 3
        have y4 := blk_frozen p0 4
        have y5 := blk_frozen p0 5
        have y6 := blk_frozen p0 6
        have y7 := blk_frozen p0 7
        have y8 := blk_frozen p0 8
        have y9 := blk_frozen p0 9
        have y10 := blk_frozen p0 10
        have y11 := blk_frozen p0 11
        have y12 := blk_frozen p0 12
        have pF := putAll_blk 0 [.int .i64 0, .bool false, .int .i64 0, .bool false, .bool false, .bool false, .bool false, .int .i64 0, .int .i64 0, .slice none 0 0, .slice none 0 0, .slice none 0 0, .slice none 0 0] #[.int .i64 0, .bool false, .int .i64 0, .bool false, .bool false, .bool false, .bool false, .int .i64 0, .int .i64 0, .slice none 0 0, .slice none 0 0, .slice none 0 0, .slice none 0 0] p0 (by simp [setAll])
        have GF := putAll_grown (row := none) 0 [.int .i64 0, .bool false, .int .i64 0, .bool false, .bool false, .bool false, .bool false, .int .i64 0, .int .i64 0, .slice none 0 0, .slice none 0 0, .slice none 0 0, .slice none 0 0] (grown_below BB0 none) (Nat.le_refl _)
        simp only [putAll] at pF GF
        have e0 := (blk_cell pF 0).trans rfl
        have e1 := (blk_cell pF 1).trans rfl
        have e2 := (blk_cell pF 2).trans rfl
        have e3 := (blk_cell pF 3).trans rfl
        have e4 := (blk_cell pF 4).trans rfl
        have e5 := (blk_cell pF 5).trans rfl
        have e6 := (blk_cell pF 6).trans rfl
        have e7 := (blk_cell pF 7).trans rfl
        have e8 := (blk_cell pF 8).trans rfl
        have e9 := (blk_cell pF 9).trans rfl
        have e10 := (blk_cell pF 10).trans rfl
        have e11 := (blk_cell pF 11).trans rfl
        have e12 := (blk_cell pF 12).trans rfl
        go_wp2_with fail
        exact bodyPost_ret (v := .tuple #[.agg #[.int .i64 0, .bool false, .int .i64 0, .bool false, .bool false, .bool false, .bool false, .int .i64 0, .int .i64 0, .slice none 0 0, .slice none 0 0, .slice none 0 0, .slice none 0 0], .int .i64 700]) (by simp [results, Try.results25, go_sem, e0, e1, e2, e3, e4, e5, e6, e7, e8, e9, e10, e11, e12]) rfl (post0 s w _ 700 ⟨GF.os, GF.tape, GF.output, GF.size, fun k hk => GF.block k hk (by simp)⟩)
      have hs0 := hr0
      unfold many4 at hs0
      rw [if_neg big0] at hs0
      obtain ⟨X0, hX0⟩ := andThen_is hs0
      have HS0 := Lib.hid hs0
      have HX0 := Lib.hid hX0
      clear hr0 hs0 hX0 HR
      have bq0 : decide ((64 : Int) < be2 s 4) = false := decide_eq_false big0
      go_wp2_with fail
      obtain ⟨n0, hn0⟩ : ∃ n : Nat, be2 s 4 = (n : Int) := ⟨(be2 s 4).toNat, by omega⟩
      have hl0 : n0 ≤ 64 := by omega
      have HN0 := Lib.hid hn0
      clear hn0
      go_loopg [8, 10] (n0 + 1) (fun kk v8 v10 wr => ∃ (m : Nat) (a : Int) (acc : List Qn) (vx : Value), v8 = .int .i64 a ∧ v10 = .int .i64 (((n0 - m : Nat)) : Int) ∧ kk = m + 1 ∧ m ≤ n0 ∧ acc.length + m = n0 ∧ rQ k s m a acc = some X0 ∧ wr.heap[km]? = some (.cells #[.int .i64 (Hd.getH s).id, .bool (Hd.getH s).qr, .int .i64 (Hd.getH s).op, .bool (Hd.getH s).aa, .bool (Hd.getH s).tc, .bool (Hd.getH s).rd, .bool (Hd.getH s).ra, .int .i64 (Hd.getH s).z, .int .i64 (Hd.getH s).rc, vx, .slice none 0 0, .slice none 0 0, .slice none 0 0] 27 (0, 0)) ∧ wr.ownsRow W0.heap.size 40 3 vx acc.length (cellsQ acc) ∧ W0.grownBy wr (some km))
      case atStart => exact ⟨n0, 12, [], .slice none 0 0, rfl, by simp, rfl, Nat.le_refl _, by simp, by have := HX0.out; rw [HN0.out, Int.toNat_natCast] at this; exact this, bm, own_nil _ _ _ _, ⟨rfl, rfl, rfl, Nat.le_refl _, fun _ _ _ => rfl⟩⟩
      case round =>
        obtain ⟨m, a, acc, vx, rfl, rfl, hkk, hmn, hlen, hq, bmr, hown, hG⟩ := hrel
        have HQ2 := Lib.hid hq
        clear hq
        have hsz := hG.size
        have bcr := blk_grown bc hG (by intro q; injection q with q; exact hcm q)
        have p0r := blk_grown p0 hG (by intro q; injection q with q; exact hpm q)
        have BR : Below w.heap.size w wr := BB0.grown hG BB0.size (fun k e => by injection e with e; omega)
        have cj : wr.cell? ⟨kc, 0, none⟩ = some (.int .i64 (be2 s 4)) := (blk_cell bcr 0).trans rfl
        have hmgt : w.heap.size ≠ km := hpm
        cases m with
        | succ m =>
          have q0 : decide ((((n0 - (m + 1) : Nat)) : Int) < be2 s 4) = true := by rw [HN0.out]; simp; omega
          have hq := HQ2.out
          clear HQ2
          unfold rQ at hq
          obtain ⟨x, hx, hq⟩ := Option.bind_eq_some_iff.1 hq
          obtain ⟨xn, xt, xc, xto, xok⟩ := x
          have kq := PRf.wimpleref4_question.calls k s a xn xt xc xto xok wr hx
          have HQ3 := Lib.hid hq
          clear hq hx
          go_wp2_with fail
          refine kq.mono ?_
          rintro e w2 ⟨rfl, B2⟩
          clear kq
          go_upto_region 18 with (fail)
          have Bx : Below w2.heap.size w2 (w2.alloc (.cells #[.string xn, .int .i64 xt, .int .i64 xc] 40)) := (Below.refl _ _).alloc (Nat.le_refl _) _
          have bq2 := blk_new w2 (.cells #[.string xn, .int .i64 xt, .int .i64 xc] 40)
          have bm2 := blk_below (blk_below bmr B2) Bx
          have p02 := blk_below (blk_below p0r B2) Bx
          have BR2 := (BR.trans (B2.mono BR.size)).trans (Bx.mono (BR.trans (B2.mono BR.size)).size)
          have own2 := Sl.own_below (Sl.own_below hown B2) Bx
          have G2 := grown_alloc' (hG.trans (grown_below B2 (some km))) (.cells #[.string xn, .int .i64 xt, .int .i64 xc] 40)
          have s2 := G2.size
          clear bmr p0r BR hown hG bcr cj B2 Bx hsz
          generalize w2.alloc (.cells #[.string xn, .int .i64 xt, .int .i64 xc] 40) = w3 at *
          generalize w2.heap.size = gq at *
          have cq0 : w3.cell? ⟨gq, 0, none⟩ = some (.string xn) := (blk_cell bq2 0).trans rfl
          have cq1 : w3.cell? ⟨gq, 1, none⟩ = some (.int .i64 xt) := (blk_cell bq2 1).trans rfl
          have cq2 : w3.cell? ⟨gq, 2, none⟩ = some (.int .i64 xc) := (blk_cell bq2 2).trans rfl
          cases xok with
          | false =>
            have hr : got0 700 = r := andThen_none (by rw [HX0.out]; have := HQ3.out; simp at this; rw [← this]) HS0.out
            subst hr
            have x0 : w3.cell? ⟨w.heap.size, 0, none⟩ = some (.int .i64 0) := (blk_cell p02 0).trans rfl
            have x1 : w3.cell? ⟨w.heap.size, 1, none⟩ = some (.bool false) := (blk_cell p02 1).trans rfl
            have x2 : w3.cell? ⟨w.heap.size, 2, none⟩ = some (.int .i64 0) := (blk_cell p02 2).trans rfl
            have x3 : w3.cell? ⟨w.heap.size, 3, none⟩ = some (.bool false) := (blk_cell p02 3).trans rfl
            have x4 : w3.cell? ⟨w.heap.size, 4, none⟩ = some (.bool false) := (blk_cell p02 4).trans rfl
            have x5 : w3.cell? ⟨w.heap.size, 5, none⟩ = some (.bool false) := (blk_cell p02 5).trans rfl
            have x6 : w3.cell? ⟨w.heap.size, 6, none⟩ = some (.bool false) := (blk_cell p02 6).trans rfl
            have x7 : w3.cell? ⟨w.heap.size, 7, none⟩ = some (.int .i64 0) := (blk_cell p02 7).trans rfl
            have x8 : w3.cell? ⟨w.heap.size, 8, none⟩ = some (.int .i64 0) := (blk_cell p02 8).trans rfl
            have x9 : w3.cell? ⟨w.heap.size, 9, none⟩ = some (.slice none 0 0) := (blk_cell p02 9).trans rfl
            have x10 : w3.cell? ⟨w.heap.size, 10, none⟩ = some (.slice none 0 0) := (blk_cell p02 10).trans rfl
            have x11 : w3.cell? ⟨w.heap.size, 11, none⟩ = some (.slice none 0 0) := (blk_cell p02 11).trans rfl
            have x12 : w3.cell? ⟨w.heap.size, 12, none⟩ = some (.slice none 0 0) := (blk_cell p02 12).trans rfl
            have y0 := blk_frozen p02 0
            have y1 := blk_frozen p02 1
            have y2 := blk_frozen p02 2
            have y3 := blk_frozen p02 3
            have y4 := blk_frozen p02 4
            have y5 := blk_frozen p02 5
            have y6 := blk_frozen p02 6
            have y7 := blk_frozen p02 7
            have y8 := blk_frozen p02 8
            have y9 := blk_frozen p02 9
            have y10 := blk_frozen p02 10
            have y11 := blk_frozen p02 11
            have y12 := blk_frozen p02 12
            have pF := putAll_blk 0 [.int .i64 0, .bool false, .int .i64 0, .bool false, .bool false, .bool false, .bool false, .int .i64 0, .int .i64 0, .slice none 0 0, .slice none 0 0, .slice none 0 0, .slice none 0 0] #[.int .i64 0, .bool false, .int .i64 0, .bool false, .bool false, .bool false, .bool false, .int .i64 0, .int .i64 0, .slice none 0 0, .slice none 0 0, .slice none 0 0, .slice none 0 0] p02 (by simp [setAll])
            have GF := putAll_grown (row := none) 0 [.int .i64 0, .bool false, .int .i64 0, .bool false, .bool false, .bool false, .bool false, .int .i64 0, .int .i64 0, .slice none 0 0, .slice none 0 0, .slice none 0 0, .slice none 0 0] (grown_below BR2 none) (Nat.le_refl _)
            simp only [putAll] at pF GF
            have e0 := (blk_cell pF 0).trans rfl
            have e1 := (blk_cell pF 1).trans rfl
            have e2 := (blk_cell pF 2).trans rfl
            have e3 := (blk_cell pF 3).trans rfl
            have e4 := (blk_cell pF 4).trans rfl
            have e5 := (blk_cell pF 5).trans rfl
            have e6 := (blk_cell pF 6).trans rfl
            have e7 := (blk_cell pF 7).trans rfl
            have e8 := (blk_cell pF 8).trans rfl
            have e9 := (blk_cell pF 9).trans rfl
            have e10 := (blk_cell pF 10).trans rfl
            have e11 := (blk_cell pF 11).trans rfl
            have e12 := (blk_cell pF 12).trans rfl
            go_wp2_with fail
            exact bodyPost_ret (v := .tuple #[.agg #[.int .i64 0, .bool false, .int .i64 0, .bool false, .bool false, .bool false, .bool false, .int .i64 0, .int .i64 0, .slice none 0 0, .slice none 0 0, .slice none 0 0, .slice none 0 0], .int .i64 700]) (by simp [results, Try.results25, go_sem, e0, e1, e2, e3, e4, e5, e6, e7, e8, e9, e10, e11, e12]) rfl (post0 s w _ 700 ⟨GF.os, GF.tape, GF.output, GF.size, fun k hk => GF.block k hk (by simp)⟩)
          | true =>
            have hq3 := HQ3.out
            simp only [if_true] at hq3
            have HQ4 := Lib.hid hq3
            clear hq3 HQ3 p02 BR2
            obtain ⟨Ax, cx, rfl⟩ := Sl.own_slice own2
            have cb : w3.cell? ⟨km, 9, none⟩ = some (.slice Ax acc.length cx) := (blk_cell bm2 9).trans rfl
            go_wp2_with (at_builtin; refine app_elem W0.heap.size rfl _ _ 24 40 (.agg #[.string ⟨#[]⟩, .int .i64 0, .int .i64 0]) 3 32 rfl Try.underlying24 info_Q rfl (by decide) own2 #[.string xn, .int .i64 xt, .int .i64 xc] rfl rfl rfl ?h1 s2 ?hn ?hl ?_)
            case h1 => exact ⟨rfl, rfl, rfl⟩
            case hn => omega
            case hl => omega
            intro v4 w4 own4 g4
            have Ba : ∀ (Z : World) (o : Obj), Below Z.heap.size Z (Z.alloc o) := fun Z o => (Below.refl _ _).alloc (Nat.le_refl _) o
            have own3a := Sl.own_below own2 (Ba _ (.cells #[.string xn, .int .i64 xt, .int .i64 xc] 40))
            have bm4 := blk_grown (blk_below bm2 (Ba _ (.cells #[.string xn, .int .i64 xt, .int .i64 xc] 40))) g4 (own_ne own3a (blk_below bm2 (Ba _ (.cells #[.string xn, .int .i64 xt, .int .i64 xc] 40))) (by decide))
            have G4 := grown_own (grown_alloc' G2 (.cells #[.string xn, .int .i64 xt, .int .i64 xc] 40)) g4 (fun b e => Sl.own_base own2 b e)
            obtain ⟨A4, c4, rfl⟩ := Sl.own_slice own4
            have c44 : w4.cell? ⟨km, 9, none⟩ = some (.slice Ax acc.length cx) := (blk_cell bm4 9).trans rfl
            have f44 := blk_frozen bm4 9
            have bm5 := blk_put bm4 9 (.slice A4 (acc.length + 1) c4) rfl
            have own5 := own_setCell (p := ⟨km, 9, none⟩) own4 (own_ne own4 bm4 (by decide)) (.slice A4 (acc.length + 1) c4)
            have G5 := grown_set' G4 9 (.slice A4 (acc.length + 1) c4)
            clear own2 own3a bm2 G2 s2 cb Ba g4 bm4 own4 G4 bq2
            go_wp2_with fail
            go_roundg (m + 1)
            case measure => omega
            case rel =>
              refine ⟨m, xto, acc ++ [(⟨xn, xt, xc⟩ : Qn)], _, rfl, ?_, rfl, by omega, by simp; omega, HQ4.out, bm5, ?_, G5⟩
              · have e1 : ((n0 - (m + 1) : Nat) : Int) + 1 = ((n0 - m : Nat) : Int) := by omega
                first | rw [e1] | (congr 1)
              · rw [List.length_append, cellsQ_app]; simpa [cellsQ] using own5
        | zero =>
          rw [Nat.sub_zero]
          have q0 : decide ((n0 : Int) < be2 s 4) = false := by rw [HN0.out]; simp
          have hq := HQ2.out
          clear HQ2
          unfold rQ at hq
          have hs : _ = some r := andThen_some (by rw [HX0.out]; exact hq.symm) HS0.out
          dsimp only at hs
          have HR0 := Lib.hid hs
          clear hs hq HX0 HS0 hkk hmn
          go_wp2_with fail
          obtain ⟨A0, c0, rfl⟩ := Sl.own_slice hown
          have ow0 := hown
          clear hown
          have lt0 := Lib.hid (own_lt ow0)
          obtain ⟨W1, hW1⟩ : ∃ Z : World, Z = wr := ⟨_, rfl⟩
          subst hW1
          skip
          obtain ⟨acc0, ha0⟩ : ∃ z, z = acc := ⟨_, rfl⟩
          subst ha0
          obtain ⟨at0, hb0⟩ : ∃ z, z = a := ⟨_, rfl⟩
          subst hb0
          obtain ⟨bm0_, bc0_, p00_, BB0_⟩ := And.intro bmr (And.intro bcr (And.intro p0r BR))
          clear bmr bcr p0r BR cj
          have bd1 := be2_bd s 6
          have cx1 : W1.cell? ⟨kc, 1, none⟩ = some (.int .i64 (be2 s 6)) := (blk_cell bc0_ 1).trans rfl
          rw [rounds_succ]
          have hr1 := HR0.out
          by_cases big1 : 64 < be2 s 6
          · have hr : got0 700 = r := by unfold many4 at hr1; rw [if_pos big1] at hr1; exact Option.some.inj hr1
            subst hr
            clear hr1
            have bq : decide ((64 : Int) < be2 s 6) = true := decide_eq_true big1
            have x0 : W1.cell? ⟨w.heap.size, 0, none⟩ = some (.int .i64 0) := (blk_cell p00_ 0).trans rfl
            have x1 : W1.cell? ⟨w.heap.size, 1, none⟩ = some (.bool false) := (blk_cell p00_ 1).trans rfl
            have x2 : W1.cell? ⟨w.heap.size, 2, none⟩ = some (.int .i64 0) := (blk_cell p00_ 2).trans rfl
            have x3 : W1.cell? ⟨w.heap.size, 3, none⟩ = some (.bool false) := (blk_cell p00_ 3).trans rfl
            have x4 : W1.cell? ⟨w.heap.size, 4, none⟩ = some (.bool false) := (blk_cell p00_ 4).trans rfl
            have x5 : W1.cell? ⟨w.heap.size, 5, none⟩ = some (.bool false) := (blk_cell p00_ 5).trans rfl
            have x6 : W1.cell? ⟨w.heap.size, 6, none⟩ = some (.bool false) := (blk_cell p00_ 6).trans rfl
            have x7 : W1.cell? ⟨w.heap.size, 7, none⟩ = some (.int .i64 0) := (blk_cell p00_ 7).trans rfl
            have x8 : W1.cell? ⟨w.heap.size, 8, none⟩ = some (.int .i64 0) := (blk_cell p00_ 8).trans rfl
            have x9 : W1.cell? ⟨w.heap.size, 9, none⟩ = some (.slice none 0 0) := (blk_cell p00_ 9).trans rfl
            have x10 : W1.cell? ⟨w.heap.size, 10, none⟩ = some (.slice none 0 0) := (blk_cell p00_ 10).trans rfl
            have x11 : W1.cell? ⟨w.heap.size, 11, none⟩ = some (.slice none 0 0) := (blk_cell p00_ 11).trans rfl
            have x12 : W1.cell? ⟨w.heap.size, 12, none⟩ = some (.slice none 0 0) := (blk_cell p00_ 12).trans rfl
            have y0 := blk_frozen p00_ 0
            have y1 := blk_frozen p00_ 1
            have y2 := blk_frozen p00_ 2
            have y3 := blk_frozen p00_ 3
            have y4 := blk_frozen p00_ 4
            have y5 := blk_frozen p00_ 5
            have y6 := blk_frozen p00_ 6
            have y7 := blk_frozen p00_ 7
            have y8 := blk_frozen p00_ 8
            have y9 := blk_frozen p00_ 9
            have y10 := blk_frozen p00_ 10
            have y11 := blk_frozen p00_ 11
            have y12 := blk_frozen p00_ 12
            have pF := putAll_blk 0 [.int .i64 0, .bool false, .int .i64 0, .bool false, .bool false, .bool false, .bool false, .int .i64 0, .int .i64 0, .slice none 0 0, .slice none 0 0, .slice none 0 0, .slice none 0 0] #[.int .i64 0, .bool false, .int .i64 0, .bool false, .bool false, .bool false, .bool false, .int .i64 0, .int .i64 0, .slice none 0 0, .slice none 0 0, .slice none 0 0, .slice none 0 0] p00_ (by simp [setAll])
            have GF := putAll_grown (row := none) 0 [.int .i64 0, .bool false, .int .i64 0, .bool false, .bool false, .bool false, .bool false, .int .i64 0, .int .i64 0, .slice none 0 0, .slice none 0 0, .slice none 0 0, .slice none 0 0] (grown_below BB0_ none) (Nat.le_refl _)
            simp only [putAll] at pF GF
            have e0 := (blk_cell pF 0).trans rfl
            have e1 := (blk_cell pF 1).trans rfl
            have e2 := (blk_cell pF 2).trans rfl
            have e3 := (blk_cell pF 3).trans rfl
            have e4 := (blk_cell pF 4).trans rfl
            have e5 := (blk_cell pF 5).trans rfl
            have e6 := (blk_cell pF 6).trans rfl
            have e7 := (blk_cell pF 7).trans rfl
            have e8 := (blk_cell pF 8).trans rfl
            have e9 := (blk_cell pF 9).trans rfl
            have e10 := (blk_cell pF 10).trans rfl
            have e11 := (blk_cell pF 11).trans rfl
            have e12 := (blk_cell pF 12).trans rfl
            go_wp2_with fail
            exact bodyPost_ret (v := .tuple #[.agg #[.int .i64 0, .bool false, .int .i64 0, .bool false, .bool false, .bool false, .bool false, .int .i64 0, .int .i64 0, .slice none 0 0, .slice none 0 0, .slice none 0 0, .slice none 0 0], .int .i64 700]) (by simp [results, Try.results25, go_sem, e0, e1, e2, e3, e4, e5, e6, e7, e8, e9, e10, e11, e12]) rfl (post0 s w _ 700 ⟨GF.os, GF.tape, GF.output, GF.size, fun k hk => GF.block k hk (by simp)⟩)
          have hs1 := hr1
          unfold many4 at hs1
          rw [if_neg big1] at hs1
          obtain ⟨X1, hX1⟩ := andThen_is hs1
          have HS1 := Lib.hid hs1
          have HX1 := Lib.hid hX1
          clear hr1 hs1 hX1 
          have bq1 : decide ((64 : Int) < be2 s 6) = false := decide_eq_false big1
          go_wp2_with fail
          obtain ⟨n1, hn1⟩ : ∃ n : Nat, be2 s 6 = (n : Int) := ⟨(be2 s 6).toNat, by omega⟩
          have hl1 : n1 ≤ 64 := by omega
          have HN1 := Lib.hid hn1
          clear hn1
          go_loopg [8, 10] (n1 + 1) (fun kk v8 v10 wr => ∃ (m : Nat) (a : Int) (acc : List Rr) (vx : Value), v8 = .int .i64 a ∧ v10 = .int .i64 (((n1 - m : Nat)) : Int) ∧ kk = m + 1 ∧ m ≤ n1 ∧ acc.length + m = n1 ∧ rR k s m a acc = some X1 ∧ wr.heap[km]? = some (.cells #[.int .i64 (Hd.getH s).id, .bool (Hd.getH s).qr, .int .i64 (Hd.getH s).op, .bool (Hd.getH s).aa, .bool (Hd.getH s).tc, .bool (Hd.getH s).rd, .bool (Hd.getH s).ra, .int .i64 (Hd.getH s).z, .int .i64 (Hd.getH s).rc, .slice A0 acc0.length c0, vx, .slice none 0 0, .slice none 0 0] 27 (0, 0)) ∧ wr.ownsRow W1.heap.size 53 5 vx acc.length (cellsR acc) ∧ W1.grownBy wr (some km))
          case atStart => exact ⟨n1, at0, [], .slice none 0 0, rfl, by simp, rfl, Nat.le_refl _, by simp, by have := HX1.out; rw [HN1.out, Int.toNat_natCast] at this; exact this, bm0_, own_nil _ _ _ _, ⟨rfl, rfl, rfl, Nat.le_refl _, fun _ _ _ => rfl⟩⟩
          case round =>
            obtain ⟨m, a, acc, vx, rfl, rfl, hkk, hmn, hlen, hq, bmr, hown, hG⟩ := hrel
            have HQ2 := Lib.hid hq
            clear hq
            have hsz := hG.size
            have bcr := blk_grown bc0_ hG (by intro q; injection q with q; exact hcm q)
            have p0r := blk_grown p00_ hG (by intro q; injection q with q; exact hpm q)
            have BR : Below w.heap.size w wr := BB0_.grown hG BB0_.size (fun k e => by injection e with e; omega)
            have cj : wr.cell? ⟨kc, 1, none⟩ = some (.int .i64 (be2 s 6)) := (blk_cell bcr 1).trans rfl
            have hmgt : w.heap.size ≠ km := hpm
            cases m with
            | succ m =>
              have q0 : decide ((((n1 - (m + 1) : Nat)) : Int) < be2 s 6) = true := by rw [HN1.out]; simp; omega
              have hq := HQ2.out
              clear HQ2
              unfold rR at hq
              obtain ⟨x, hx, hq⟩ := Option.bind_eq_some_iff.1 hq
              obtain ⟨xn, xt, xc, xl, xd, xto, xok⟩ := x
              have kq := PRf.wimpleref4_record.calls k s a xn xt xc xl xd xto xok wr hx
              have HQ3 := Lib.hid hq
              clear hq hx
              go_wp2_with fail
              refine kq.mono ?_
              rintro e w2 ⟨rfl, B2⟩
              clear kq
              go_upto_region 23 with (fail)
              have Bx : Below w2.heap.size w2 (w2.alloc (.cells #[.string xn, .int .i64 xt, .int .i64 xc, .int .i64 xl, .string xd] 53)) := (Below.refl _ _).alloc (Nat.le_refl _) _
              have bq2 := blk_new w2 (.cells #[.string xn, .int .i64 xt, .int .i64 xc, .int .i64 xl, .string xd] 53)
              have bm2 := blk_below (blk_below bmr B2) Bx
              have p02 := blk_below (blk_below p0r B2) Bx
              have BR2 := (BR.trans (B2.mono BR.size)).trans (Bx.mono (BR.trans (B2.mono BR.size)).size)
              have own2 := Sl.own_below (Sl.own_below hown B2) Bx
              have G2 := grown_alloc' (hG.trans (grown_below B2 (some km))) (.cells #[.string xn, .int .i64 xt, .int .i64 xc, .int .i64 xl, .string xd] 53)
              have s2 := G2.size
              clear bmr p0r BR hown hG bcr cj B2 Bx hsz
              generalize w2.alloc (.cells #[.string xn, .int .i64 xt, .int .i64 xc, .int .i64 xl, .string xd] 53) = w3 at *
              generalize w2.heap.size = gq at *
              have cq0 : w3.cell? ⟨gq, 0, none⟩ = some (.string xn) := (blk_cell bq2 0).trans rfl
              have cq1 : w3.cell? ⟨gq, 1, none⟩ = some (.int .i64 xt) := (blk_cell bq2 1).trans rfl
              have cq2 : w3.cell? ⟨gq, 2, none⟩ = some (.int .i64 xc) := (blk_cell bq2 2).trans rfl
              have cq3 : w3.cell? ⟨gq, 3, none⟩ = some (.int .i64 xl) := (blk_cell bq2 3).trans rfl
              have cq4 : w3.cell? ⟨gq, 4, none⟩ = some (.string xd) := (blk_cell bq2 4).trans rfl
              cases xok with
              | false =>
                have hr : got0 700 = r := andThen_none (by rw [HX1.out]; have := HQ3.out; simp at this; rw [← this]) HS1.out
                subst hr
                have x0 : w3.cell? ⟨w.heap.size, 0, none⟩ = some (.int .i64 0) := (blk_cell p02 0).trans rfl
                have x1 : w3.cell? ⟨w.heap.size, 1, none⟩ = some (.bool false) := (blk_cell p02 1).trans rfl
                have x2 : w3.cell? ⟨w.heap.size, 2, none⟩ = some (.int .i64 0) := (blk_cell p02 2).trans rfl
                have x3 : w3.cell? ⟨w.heap.size, 3, none⟩ = some (.bool false) := (blk_cell p02 3).trans rfl
                have x4 : w3.cell? ⟨w.heap.size, 4, none⟩ = some (.bool false) := (blk_cell p02 4).trans rfl
                have x5 : w3.cell? ⟨w.heap.size, 5, none⟩ = some (.bool false) := (blk_cell p02 5).trans rfl
                have x6 : w3.cell? ⟨w.heap.size, 6, none⟩ = some (.bool false) := (blk_cell p02 6).trans rfl
                have x7 : w3.cell? ⟨w.heap.size, 7, none⟩ = some (.int .i64 0) := (blk_cell p02 7).trans rfl
                have x8 : w3.cell? ⟨w.heap.size, 8, none⟩ = some (.int .i64 0) := (blk_cell p02 8).trans rfl
                have x9 : w3.cell? ⟨w.heap.size, 9, none⟩ = some (.slice none 0 0) := (blk_cell p02 9).trans rfl
                have x10 : w3.cell? ⟨w.heap.size, 10, none⟩ = some (.slice none 0 0) := (blk_cell p02 10).trans rfl
                have x11 : w3.cell? ⟨w.heap.size, 11, none⟩ = some (.slice none 0 0) := (blk_cell p02 11).trans rfl
                have x12 : w3.cell? ⟨w.heap.size, 12, none⟩ = some (.slice none 0 0) := (blk_cell p02 12).trans rfl
                have y0 := blk_frozen p02 0
                have y1 := blk_frozen p02 1
                have y2 := blk_frozen p02 2
                have y3 := blk_frozen p02 3
                have y4 := blk_frozen p02 4
                have y5 := blk_frozen p02 5
                have y6 := blk_frozen p02 6
                have y7 := blk_frozen p02 7
                have y8 := blk_frozen p02 8
                have y9 := blk_frozen p02 9
                have y10 := blk_frozen p02 10
                have y11 := blk_frozen p02 11
                have y12 := blk_frozen p02 12
                have pF := putAll_blk 0 [.int .i64 0, .bool false, .int .i64 0, .bool false, .bool false, .bool false, .bool false, .int .i64 0, .int .i64 0, .slice none 0 0, .slice none 0 0, .slice none 0 0, .slice none 0 0] #[.int .i64 0, .bool false, .int .i64 0, .bool false, .bool false, .bool false, .bool false, .int .i64 0, .int .i64 0, .slice none 0 0, .slice none 0 0, .slice none 0 0, .slice none 0 0] p02 (by simp [setAll])
                have GF := putAll_grown (row := none) 0 [.int .i64 0, .bool false, .int .i64 0, .bool false, .bool false, .bool false, .bool false, .int .i64 0, .int .i64 0, .slice none 0 0, .slice none 0 0, .slice none 0 0, .slice none 0 0] (grown_below BR2 none) (Nat.le_refl _)
                simp only [putAll] at pF GF
                have e0 := (blk_cell pF 0).trans rfl
                have e1 := (blk_cell pF 1).trans rfl
                have e2 := (blk_cell pF 2).trans rfl
                have e3 := (blk_cell pF 3).trans rfl
                have e4 := (blk_cell pF 4).trans rfl
                have e5 := (blk_cell pF 5).trans rfl
                have e6 := (blk_cell pF 6).trans rfl
                have e7 := (blk_cell pF 7).trans rfl
                have e8 := (blk_cell pF 8).trans rfl
                have e9 := (blk_cell pF 9).trans rfl
                have e10 := (blk_cell pF 10).trans rfl
                have e11 := (blk_cell pF 11).trans rfl
                have e12 := (blk_cell pF 12).trans rfl
                go_wp2_with fail
                exact bodyPost_ret (v := .tuple #[.agg #[.int .i64 0, .bool false, .int .i64 0, .bool false, .bool false, .bool false, .bool false, .int .i64 0, .int .i64 0, .slice none 0 0, .slice none 0 0, .slice none 0 0, .slice none 0 0], .int .i64 700]) (by simp [results, Try.results25, go_sem, e0, e1, e2, e3, e4, e5, e6, e7, e8, e9, e10, e11, e12]) rfl (post0 s w _ 700 ⟨GF.os, GF.tape, GF.output, GF.size, fun k hk => GF.block k hk (by simp)⟩)
              | true =>
                have hq3 := HQ3.out
                simp only [if_true] at hq3
                have HQ4 := Lib.hid hq3
                clear hq3 HQ3 p02 BR2
                obtain ⟨Ax, cx, rfl⟩ := Sl.own_slice own2
                have cb : w3.cell? ⟨km, 10, none⟩ = some (.slice Ax acc.length cx) := (blk_cell bm2 10).trans rfl
                go_wp2_with (at_builtin; refine app_elem W1.heap.size rfl _ _ 25 53 (.agg #[.string ⟨#[]⟩, .int .i64 0, .int .i64 0, .int .i64 0, .string ⟨#[]⟩]) 5 56 rfl Try.underlying25 info_R rfl (by decide) own2 #[.string xn, .int .i64 xt, .int .i64 xc, .int .i64 xl, .string xd] rfl rfl rfl ?h1 s2 ?hn ?hl ?_)
                case h1 => exact ⟨rfl, rfl, rfl, rfl, rfl⟩
                case hn => omega
                case hl => omega
                intro v4 w4 own4 g4
                have Ba : ∀ (Z : World) (o : Obj), Below Z.heap.size Z (Z.alloc o) := fun Z o => (Below.refl _ _).alloc (Nat.le_refl _) o
                have own3a := Sl.own_below own2 (Ba _ (.cells #[.string xn, .int .i64 xt, .int .i64 xc, .int .i64 xl, .string xd] 53))
                have bm4 := blk_grown (blk_below bm2 (Ba _ (.cells #[.string xn, .int .i64 xt, .int .i64 xc, .int .i64 xl, .string xd] 53))) g4 (own_ne own3a (blk_below bm2 (Ba _ (.cells #[.string xn, .int .i64 xt, .int .i64 xc, .int .i64 xl, .string xd] 53))) (by decide))
                have G4 := grown_own (grown_alloc' G2 (.cells #[.string xn, .int .i64 xt, .int .i64 xc, .int .i64 xl, .string xd] 53)) g4 (fun b e => Sl.own_base own2 b e)
                obtain ⟨A4, c4, rfl⟩ := Sl.own_slice own4
                have c44 : w4.cell? ⟨km, 10, none⟩ = some (.slice Ax acc.length cx) := (blk_cell bm4 10).trans rfl
                have f44 := blk_frozen bm4 10
                have bm5 := blk_put bm4 10 (.slice A4 (acc.length + 1) c4) rfl
                have own5 := own_setCell (p := ⟨km, 10, none⟩) own4 (own_ne own4 bm4 (by decide)) (.slice A4 (acc.length + 1) c4)
                have G5 := grown_set' G4 10 (.slice A4 (acc.length + 1) c4)
                clear own2 own3a bm2 G2 s2 cb Ba g4 bm4 own4 G4 bq2
                go_wp2_with fail
                go_roundg (m + 1)
                case measure => omega
                case rel =>
                  refine ⟨m, xto, acc ++ [(⟨xn, xt, xc, xl, xd⟩ : Rr)], _, rfl, ?_, rfl, by omega, by simp; omega, HQ4.out, bm5, ?_, G5⟩
                  · have e1 : ((n1 - (m + 1) : Nat) : Int) + 1 = ((n1 - m : Nat) : Int) := by omega
                    first | rw [e1] | (congr 1)
                  · rw [List.length_append, cellsR_app]; simpa [cellsR] using own5
            | zero =>
              rw [Nat.sub_zero]
              have q0 : decide ((n1 : Int) < be2 s 6) = false := by rw [HN1.out]; simp
              have hq := HQ2.out
              clear HQ2
              unfold rR at hq
              have hs : _ = some r := andThen_some (by rw [HX1.out]; exact hq.symm) HS1.out
              dsimp only at hs
              have HR1 := Lib.hid hs
              clear hs hq HX1 HS1 hkk hmn
              go_wp2_with fail
              obtain ⟨A1, c1, rfl⟩ := Sl.own_slice hown
              have ow1 := hown
              clear hown
              have ow0n := own_other ow0 hG (by right; intro q; exact (own_ne ow0 bm0_ (by decide)) q.symm)
              replace ow0 := ow0n
              clear ow0n
              have lt1 := Lib.hid (own_lt ow1)
              obtain ⟨W2, hW2⟩ : ∃ Z : World, Z = wr := ⟨_, rfl⟩
              subst hW2
              skip
              obtain ⟨acc1, ha1⟩ : ∃ z, z = acc := ⟨_, rfl⟩
              subst ha1
              obtain ⟨at1, hb1⟩ : ∃ z, z = a := ⟨_, rfl⟩
              subst hb1
              obtain ⟨bm1_, bc1_, p01_, BB1_⟩ := And.intro bmr (And.intro bcr (And.intro p0r BR))
              clear bmr bcr p0r BR cj
              have bd2 := be2_bd s 8
              have cx2 : W2.cell? ⟨kc, 2, none⟩ = some (.int .i64 (be2 s 8)) := (blk_cell bc1_ 2).trans rfl
              rw [rounds_succ]
              have hr2 := HR1.out
              by_cases big2 : 64 < be2 s 8
              · have hr : got0 700 = r := by unfold many4 at hr2; rw [if_pos big2] at hr2; exact Option.some.inj hr2
                subst hr
                clear hr2
                have bq : decide ((64 : Int) < be2 s 8) = true := decide_eq_true big2
                have x0 : W2.cell? ⟨w.heap.size, 0, none⟩ = some (.int .i64 0) := (blk_cell p01_ 0).trans rfl
                have x1 : W2.cell? ⟨w.heap.size, 1, none⟩ = some (.bool false) := (blk_cell p01_ 1).trans rfl
                have x2 : W2.cell? ⟨w.heap.size, 2, none⟩ = some (.int .i64 0) := (blk_cell p01_ 2).trans rfl
                have x3 : W2.cell? ⟨w.heap.size, 3, none⟩ = some (.bool false) := (blk_cell p01_ 3).trans rfl
                have x4 : W2.cell? ⟨w.heap.size, 4, none⟩ = some (.bool false) := (blk_cell p01_ 4).trans rfl
                have x5 : W2.cell? ⟨w.heap.size, 5, none⟩ = some (.bool false) := (blk_cell p01_ 5).trans rfl
                have x6 : W2.cell? ⟨w.heap.size, 6, none⟩ = some (.bool false) := (blk_cell p01_ 6).trans rfl
                have x7 : W2.cell? ⟨w.heap.size, 7, none⟩ = some (.int .i64 0) := (blk_cell p01_ 7).trans rfl
                have x8 : W2.cell? ⟨w.heap.size, 8, none⟩ = some (.int .i64 0) := (blk_cell p01_ 8).trans rfl
                have x9 : W2.cell? ⟨w.heap.size, 9, none⟩ = some (.slice none 0 0) := (blk_cell p01_ 9).trans rfl
                have x10 : W2.cell? ⟨w.heap.size, 10, none⟩ = some (.slice none 0 0) := (blk_cell p01_ 10).trans rfl
                have x11 : W2.cell? ⟨w.heap.size, 11, none⟩ = some (.slice none 0 0) := (blk_cell p01_ 11).trans rfl
                have x12 : W2.cell? ⟨w.heap.size, 12, none⟩ = some (.slice none 0 0) := (blk_cell p01_ 12).trans rfl
                have y0 := blk_frozen p01_ 0
                have y1 := blk_frozen p01_ 1
                have y2 := blk_frozen p01_ 2
                have y3 := blk_frozen p01_ 3
                have y4 := blk_frozen p01_ 4
                have y5 := blk_frozen p01_ 5
                have y6 := blk_frozen p01_ 6
                have y7 := blk_frozen p01_ 7
                have y8 := blk_frozen p01_ 8
                have y9 := blk_frozen p01_ 9
                have y10 := blk_frozen p01_ 10
                have y11 := blk_frozen p01_ 11
                have y12 := blk_frozen p01_ 12
                have pF := putAll_blk 0 [.int .i64 0, .bool false, .int .i64 0, .bool false, .bool false, .bool false, .bool false, .int .i64 0, .int .i64 0, .slice none 0 0, .slice none 0 0, .slice none 0 0, .slice none 0 0] #[.int .i64 0, .bool false, .int .i64 0, .bool false, .bool false, .bool false, .bool false, .int .i64 0, .int .i64 0, .slice none 0 0, .slice none 0 0, .slice none 0 0, .slice none 0 0] p01_ (by simp [setAll])
                have GF := putAll_grown (row := none) 0 [.int .i64 0, .bool false, .int .i64 0, .bool false, .bool false, .bool false, .bool false, .int .i64 0, .int .i64 0, .slice none 0 0, .slice none 0 0, .slice none 0 0, .slice none 0 0] (grown_below BB1_ none) (Nat.le_refl _)
                simp only [putAll] at pF GF
                have e0 := (blk_cell pF 0).trans rfl
                have e1 := (blk_cell pF 1).trans rfl
                have e2 := (blk_cell pF 2).trans rfl
                have e3 := (blk_cell pF 3).trans rfl
                have e4 := (blk_cell pF 4).trans rfl
                have e5 := (blk_cell pF 5).trans rfl
                have e6 := (blk_cell pF 6).trans rfl
                have e7 := (blk_cell pF 7).trans rfl
                have e8 := (blk_cell pF 8).trans rfl
                have e9 := (blk_cell pF 9).trans rfl
                have e10 := (blk_cell pF 10).trans rfl
                have e11 := (blk_cell pF 11).trans rfl
                have e12 := (blk_cell pF 12).trans rfl
                go_wp2_with fail
                exact bodyPost_ret (v := .tuple #[.agg #[.int .i64 0, .bool false, .int .i64 0, .bool false, .bool false, .bool false, .bool false, .int .i64 0, .int .i64 0, .slice none 0 0, .slice none 0 0, .slice none 0 0, .slice none 0 0], .int .i64 700]) (by simp [results, Try.results25, go_sem, e0, e1, e2, e3, e4, e5, e6, e7, e8, e9, e10, e11, e12]) rfl (post0 s w _ 700 ⟨GF.os, GF.tape, GF.output, GF.size, fun k hk => GF.block k hk (by simp)⟩)
              have hs2 := hr2
              unfold many4 at hs2
              rw [if_neg big2] at hs2
              obtain ⟨X2, hX2⟩ := andThen_is hs2
              have HS2 := Lib.hid hs2
              have HX2 := Lib.hid hX2
              clear hr2 hs2 hX2 
              have bq2 : decide ((64 : Int) < be2 s 8) = false := decide_eq_false big2
              go_wp2_with fail
              obtain ⟨n2, hn2⟩ : ∃ n : Nat, be2 s 8 = (n : Int) := ⟨(be2 s 8).toNat, by omega⟩
              have hl2 : n2 ≤ 64 := by omega
              have HN2 := Lib.hid hn2
              clear hn2
              go_loopg [8, 10] (n2 + 1) (fun kk v8 v10 wr => ∃ (m : Nat) (a : Int) (acc : List Rr) (vx : Value), v8 = .int .i64 a ∧ v10 = .int .i64 (((n2 - m : Nat)) : Int) ∧ kk = m + 1 ∧ m ≤ n2 ∧ acc.length + m = n2 ∧ rR k s m a acc = some X2 ∧ wr.heap[km]? = some (.cells #[.int .i64 (Hd.getH s).id, .bool (Hd.getH s).qr, .int .i64 (Hd.getH s).op, .bool (Hd.getH s).aa, .bool (Hd.getH s).tc, .bool (Hd.getH s).rd, .bool (Hd.getH s).ra, .int .i64 (Hd.getH s).z, .int .i64 (Hd.getH s).rc, .slice A0 acc0.length c0, .slice A1 acc1.length c1, vx, .slice none 0 0] 27 (0, 0)) ∧ wr.ownsRow W2.heap.size 53 5 vx acc.length (cellsR acc) ∧ W2.grownBy wr (some km))
              case atStart => exact ⟨n2, at1, [], .slice none 0 0, rfl, by simp, rfl, Nat.le_refl _, by simp, by have := HX2.out; rw [HN2.out, Int.toNat_natCast] at this; exact this, bm1_, own_nil _ _ _ _, ⟨rfl, rfl, rfl, Nat.le_refl _, fun _ _ _ => rfl⟩⟩
              case round =>
                obtain ⟨m, a, acc, vx, rfl, rfl, hkk, hmn, hlen, hq, bmr, hown, hG⟩ := hrel
                have HQ2 := Lib.hid hq
                clear hq
                have hsz := hG.size
                have bcr := blk_grown bc1_ hG (by intro q; injection q with q; exact hcm q)
                have p0r := blk_grown p01_ hG (by intro q; injection q with q; exact hpm q)
                have BR : Below w.heap.size w wr := BB1_.grown hG BB1_.size (fun k e => by injection e with e; omega)
                have cj : wr.cell? ⟨kc, 2, none⟩ = some (.int .i64 (be2 s 8)) := (blk_cell bcr 2).trans rfl
                have hmgt : w.heap.size ≠ km := hpm
                cases m with
                | succ m =>
                  have q0 : decide ((((n2 - (m + 1) : Nat)) : Int) < be2 s 8) = true := by rw [HN2.out]; simp; omega
                  have hq := HQ2.out
                  clear HQ2
                  unfold rR at hq
                  obtain ⟨x, hx, hq⟩ := Option.bind_eq_some_iff.1 hq
                  obtain ⟨xn, xt, xc, xl, xd, xto, xok⟩ := x
                  have kq := PRf.wimpleref4_record.calls k s a xn xt xc xl xd xto xok wr hx
                  have HQ3 := Lib.hid hq
                  clear hq hx
                  go_wp2_with fail
                  refine kq.mono ?_
                  rintro e w2 ⟨rfl, B2⟩
                  clear kq
                  go_upto_region 23 with (fail)
                  have Bx : Below w2.heap.size w2 (w2.alloc (.cells #[.string xn, .int .i64 xt, .int .i64 xc, .int .i64 xl, .string xd] 53)) := (Below.refl _ _).alloc (Nat.le_refl _) _
                  have bq2 := blk_new w2 (.cells #[.string xn, .int .i64 xt, .int .i64 xc, .int .i64 xl, .string xd] 53)
                  have bm2 := blk_below (blk_below bmr B2) Bx
                  have p02 := blk_below (blk_below p0r B2) Bx
                  have BR2 := (BR.trans (B2.mono BR.size)).trans (Bx.mono (BR.trans (B2.mono BR.size)).size)
                  have own2 := Sl.own_below (Sl.own_below hown B2) Bx
                  have G2 := grown_alloc' (hG.trans (grown_below B2 (some km))) (.cells #[.string xn, .int .i64 xt, .int .i64 xc, .int .i64 xl, .string xd] 53)
                  have s2 := G2.size
                  clear bmr p0r BR hown hG bcr cj B2 Bx hsz
                  generalize w2.alloc (.cells #[.string xn, .int .i64 xt, .int .i64 xc, .int .i64 xl, .string xd] 53) = w3 at *
                  generalize w2.heap.size = gq at *
                  have cq0 : w3.cell? ⟨gq, 0, none⟩ = some (.string xn) := (blk_cell bq2 0).trans rfl
                  have cq1 : w3.cell? ⟨gq, 1, none⟩ = some (.int .i64 xt) := (blk_cell bq2 1).trans rfl
                  have cq2 : w3.cell? ⟨gq, 2, none⟩ = some (.int .i64 xc) := (blk_cell bq2 2).trans rfl
                  have cq3 : w3.cell? ⟨gq, 3, none⟩ = some (.int .i64 xl) := (blk_cell bq2 3).trans rfl
                  have cq4 : w3.cell? ⟨gq, 4, none⟩ = some (.string xd) := (blk_cell bq2 4).trans rfl
                  cases xok with
                  | false =>
                    have hr : got0 700 = r := andThen_none (by rw [HX2.out]; have := HQ3.out; simp at this; rw [← this]) HS2.out
                    subst hr
                    have x0 : w3.cell? ⟨w.heap.size, 0, none⟩ = some (.int .i64 0) := (blk_cell p02 0).trans rfl
                    have x1 : w3.cell? ⟨w.heap.size, 1, none⟩ = some (.bool false) := (blk_cell p02 1).trans rfl
                    have x2 : w3.cell? ⟨w.heap.size, 2, none⟩ = some (.int .i64 0) := (blk_cell p02 2).trans rfl
                    have x3 : w3.cell? ⟨w.heap.size, 3, none⟩ = some (.bool false) := (blk_cell p02 3).trans rfl
                    have x4 : w3.cell? ⟨w.heap.size, 4, none⟩ = some (.bool false) := (blk_cell p02 4).trans rfl
                    have x5 : w3.cell? ⟨w.heap.size, 5, none⟩ = some (.bool false) := (blk_cell p02 5).trans rfl
                    have x6 : w3.cell? ⟨w.heap.size, 6, none⟩ = some (.bool false) := (blk_cell p02 6).trans rfl
                    have x7 : w3.cell? ⟨w.heap.size, 7, none⟩ = some (.int .i64 0) := (blk_cell p02 7).trans rfl
                    have x8 : w3.cell? ⟨w.heap.size, 8, none⟩ = some (.int .i64 0) := (blk_cell p02 8).trans rfl
                    have x9 : w3.cell? ⟨w.heap.size, 9, none⟩ = some (.slice none 0 0) := (blk_cell p02 9).trans rfl
                    have x10 : w3.cell? ⟨w.heap.size, 10, none⟩ = some (.slice none 0 0) := (blk_cell p02 10).trans rfl
                    have x11 : w3.cell? ⟨w.heap.size, 11, none⟩ = some (.slice none 0 0) := (blk_cell p02 11).trans rfl
                    have x12 : w3.cell? ⟨w.heap.size, 12, none⟩ = some (.slice none 0 0) := (blk_cell p02 12).trans rfl
                    have y0 := blk_frozen p02 0
                    have y1 := blk_frozen p02 1
                    have y2 := blk_frozen p02 2
                    have y3 := blk_frozen p02 3
                    have y4 := blk_frozen p02 4
                    have y5 := blk_frozen p02 5
                    have y6 := blk_frozen p02 6
                    have y7 := blk_frozen p02 7
                    have y8 := blk_frozen p02 8
                    have y9 := blk_frozen p02 9
                    have y10 := blk_frozen p02 10
                    have y11 := blk_frozen p02 11
                    have y12 := blk_frozen p02 12
                    have pF := putAll_blk 0 [.int .i64 0, .bool false, .int .i64 0, .bool false, .bool false, .bool false, .bool false, .int .i64 0, .int .i64 0, .slice none 0 0, .slice none 0 0, .slice none 0 0, .slice none 0 0] #[.int .i64 0, .bool false, .int .i64 0, .bool false, .bool false, .bool false, .bool false, .int .i64 0, .int .i64 0, .slice none 0 0, .slice none 0 0, .slice none 0 0, .slice none 0 0] p02 (by simp [setAll])
                    have GF := putAll_grown (row := none) 0 [.int .i64 0, .bool false, .int .i64 0, .bool false, .bool false, .bool false, .bool false, .int .i64 0, .int .i64 0, .slice none 0 0, .slice none 0 0, .slice none 0 0, .slice none 0 0] (grown_below BR2 none) (Nat.le_refl _)
                    simp only [putAll] at pF GF
                    have e0 := (blk_cell pF 0).trans rfl
                    have e1 := (blk_cell pF 1).trans rfl
                    have e2 := (blk_cell pF 2).trans rfl
                    have e3 := (blk_cell pF 3).trans rfl
                    have e4 := (blk_cell pF 4).trans rfl
                    have e5 := (blk_cell pF 5).trans rfl
                    have e6 := (blk_cell pF 6).trans rfl
                    have e7 := (blk_cell pF 7).trans rfl
                    have e8 := (blk_cell pF 8).trans rfl
                    have e9 := (blk_cell pF 9).trans rfl
                    have e10 := (blk_cell pF 10).trans rfl
                    have e11 := (blk_cell pF 11).trans rfl
                    have e12 := (blk_cell pF 12).trans rfl
                    go_wp2_with fail
                    exact bodyPost_ret (v := .tuple #[.agg #[.int .i64 0, .bool false, .int .i64 0, .bool false, .bool false, .bool false, .bool false, .int .i64 0, .int .i64 0, .slice none 0 0, .slice none 0 0, .slice none 0 0, .slice none 0 0], .int .i64 700]) (by simp [results, Try.results25, go_sem, e0, e1, e2, e3, e4, e5, e6, e7, e8, e9, e10, e11, e12]) rfl (post0 s w _ 700 ⟨GF.os, GF.tape, GF.output, GF.size, fun k hk => GF.block k hk (by simp)⟩)
                  | true =>
                    have hq3 := HQ3.out
                    simp only [if_true] at hq3
                    have HQ4 := Lib.hid hq3
                    clear hq3 HQ3 p02 BR2
                    obtain ⟨Ax, cx, rfl⟩ := Sl.own_slice own2
                    have cb : w3.cell? ⟨km, 11, none⟩ = some (.slice Ax acc.length cx) := (blk_cell bm2 11).trans rfl
                    go_wp2_with (at_builtin; refine app_elem W2.heap.size rfl _ _ 25 53 (.agg #[.string ⟨#[]⟩, .int .i64 0, .int .i64 0, .int .i64 0, .string ⟨#[]⟩]) 5 56 rfl Try.underlying25 info_R rfl (by decide) own2 #[.string xn, .int .i64 xt, .int .i64 xc, .int .i64 xl, .string xd] rfl rfl rfl ?h1 s2 ?hn ?hl ?_)
                    case h1 => exact ⟨rfl, rfl, rfl, rfl, rfl⟩
                    case hn => omega
                    case hl => omega
                    intro v4 w4 own4 g4
                    have Ba : ∀ (Z : World) (o : Obj), Below Z.heap.size Z (Z.alloc o) := fun Z o => (Below.refl _ _).alloc (Nat.le_refl _) o
                    have own3a := Sl.own_below own2 (Ba _ (.cells #[.string xn, .int .i64 xt, .int .i64 xc, .int .i64 xl, .string xd] 53))
                    have bm4 := blk_grown (blk_below bm2 (Ba _ (.cells #[.string xn, .int .i64 xt, .int .i64 xc, .int .i64 xl, .string xd] 53))) g4 (own_ne own3a (blk_below bm2 (Ba _ (.cells #[.string xn, .int .i64 xt, .int .i64 xc, .int .i64 xl, .string xd] 53))) (by decide))
                    have G4 := grown_own (grown_alloc' G2 (.cells #[.string xn, .int .i64 xt, .int .i64 xc, .int .i64 xl, .string xd] 53)) g4 (fun b e => Sl.own_base own2 b e)
                    obtain ⟨A4, c4, rfl⟩ := Sl.own_slice own4
                    have c44 : w4.cell? ⟨km, 11, none⟩ = some (.slice Ax acc.length cx) := (blk_cell bm4 11).trans rfl
                    have f44 := blk_frozen bm4 11
                    have bm5 := blk_put bm4 11 (.slice A4 (acc.length + 1) c4) rfl
                    have own5 := own_setCell (p := ⟨km, 11, none⟩) own4 (own_ne own4 bm4 (by decide)) (.slice A4 (acc.length + 1) c4)
                    have G5 := grown_set' G4 11 (.slice A4 (acc.length + 1) c4)
                    clear own2 own3a bm2 G2 s2 cb Ba g4 bm4 own4 G4 bq2
                    go_wp2_with fail
                    go_roundg (m + 1)
                    case measure => omega
                    case rel =>
                      refine ⟨m, xto, acc ++ [(⟨xn, xt, xc, xl, xd⟩ : Rr)], _, rfl, ?_, rfl, by omega, by simp; omega, HQ4.out, bm5, ?_, G5⟩
                      · have e1 : ((n2 - (m + 1) : Nat) : Int) + 1 = ((n2 - m : Nat) : Int) := by omega
                        first | rw [e1] | (congr 1)
                      · rw [List.length_append, cellsR_app]; simpa [cellsR] using own5
                | zero =>
                  rw [Nat.sub_zero]
                  have q0 : decide ((n2 : Int) < be2 s 8) = false := by rw [HN2.out]; simp
                  have hq := HQ2.out
                  clear HQ2
                  unfold rR at hq
                  have hs : _ = some r := andThen_some (by rw [HX2.out]; exact hq.symm) HS2.out
                  dsimp only at hs
                  have HR2 := Lib.hid hs
                  clear hs hq HX2 HS2 hkk hmn
                  go_wp2_with fail
                  obtain ⟨A2, c2, rfl⟩ := Sl.own_slice hown
                  have ow2 := hown
                  clear hown
                  have ow0n := own_other ow0 hG (by right; intro q; exact (own_ne ow0 bm1_ (by decide)) q.symm)
                  replace ow0 := ow0n
                  clear ow0n
                  have ow1n := own_other ow1 hG (by right; intro q; exact (own_ne ow1 bm1_ (by decide)) q.symm)
                  replace ow1 := ow1n
                  clear ow1n
                  have lt2 := Lib.hid (own_lt ow2)
                  have bs2 := Lib.hid (Sl.own_base ow2)
                  have hsz2 := hsz
                  obtain ⟨W3, hW3⟩ : ∃ Z : World, Z = wr := ⟨_, rfl⟩
                  subst hW3
                  skip
                  obtain ⟨acc2, ha2⟩ : ∃ z, z = acc := ⟨_, rfl⟩
                  subst ha2
                  obtain ⟨at2, hb2⟩ : ∃ z, z = a := ⟨_, rfl⟩
                  subst hb2
                  obtain ⟨bm2_, bc2_, p02_, BB2_⟩ := And.intro bmr (And.intro bcr (And.intro p0r BR))
                  clear bmr bcr p0r BR cj
                  have bd3 := be2_bd s 10
                  have cx3 : W3.cell? ⟨kc, 3, none⟩ = some (.int .i64 (be2 s 10)) := (blk_cell bc2_ 3).trans rfl
                  rw [rounds_succ]
                  have hr3 := HR2.out
                  by_cases big3 : 64 < be2 s 10
                  · have hr : got0 700 = r := by unfold many4 at hr3; rw [if_pos big3] at hr3; exact Option.some.inj hr3
                    subst hr
                    clear hr3
                    have bq : decide ((64 : Int) < be2 s 10) = true := decide_eq_true big3
                    have x0 : W3.cell? ⟨w.heap.size, 0, none⟩ = some (.int .i64 0) := (blk_cell p02_ 0).trans rfl
                    have x1 : W3.cell? ⟨w.heap.size, 1, none⟩ = some (.bool false) := (blk_cell p02_ 1).trans rfl
                    have x2 : W3.cell? ⟨w.heap.size, 2, none⟩ = some (.int .i64 0) := (blk_cell p02_ 2).trans rfl
                    have x3 : W3.cell? ⟨w.heap.size, 3, none⟩ = some (.bool false) := (blk_cell p02_ 3).trans rfl
                    have x4 : W3.cell? ⟨w.heap.size, 4, none⟩ = some (.bool false) := (blk_cell p02_ 4).trans rfl
                    have x5 : W3.cell? ⟨w.heap.size, 5, none⟩ = some (.bool false) := (blk_cell p02_ 5).trans rfl
                    have x6 : W3.cell? ⟨w.heap.size, 6, none⟩ = some (.bool false) := (blk_cell p02_ 6).trans rfl
                    have x7 : W3.cell? ⟨w.heap.size, 7, none⟩ = some (.int .i64 0) := (blk_cell p02_ 7).trans rfl
                    have x8 : W3.cell? ⟨w.heap.size, 8, none⟩ = some (.int .i64 0) := (blk_cell p02_ 8).trans rfl
                    have x9 : W3.cell? ⟨w.heap.size, 9, none⟩ = some (.slice none 0 0) := (blk_cell p02_ 9).trans rfl
                    have x10 : W3.cell? ⟨w.heap.size, 10, none⟩ = some (.slice none 0 0) := (blk_cell p02_ 10).trans rfl
                    have x11 : W3.cell? ⟨w.heap.size, 11, none⟩ = some (.slice none 0 0) := (blk_cell p02_ 11).trans rfl
                    have x12 : W3.cell? ⟨w.heap.size, 12, none⟩ = some (.slice none 0 0) := (blk_cell p02_ 12).trans rfl
                    have y0 := blk_frozen p02_ 0
                    have y1 := blk_frozen p02_ 1
                    have y2 := blk_frozen p02_ 2
                    have y3 := blk_frozen p02_ 3
                    have y4 := blk_frozen p02_ 4
                    have y5 := blk_frozen p02_ 5
                    have y6 := blk_frozen p02_ 6
                    have y7 := blk_frozen p02_ 7
                    have y8 := blk_frozen p02_ 8
                    have y9 := blk_frozen p02_ 9
                    have y10 := blk_frozen p02_ 10
                    have y11 := blk_frozen p02_ 11
                    have y12 := blk_frozen p02_ 12
                    have pF := putAll_blk 0 [.int .i64 0, .bool false, .int .i64 0, .bool false, .bool false, .bool false, .bool false, .int .i64 0, .int .i64 0, .slice none 0 0, .slice none 0 0, .slice none 0 0, .slice none 0 0] #[.int .i64 0, .bool false, .int .i64 0, .bool false, .bool false, .bool false, .bool false, .int .i64 0, .int .i64 0, .slice none 0 0, .slice none 0 0, .slice none 0 0, .slice none 0 0] p02_ (by simp [setAll])
                    have GF := putAll_grown (row := none) 0 [.int .i64 0, .bool false, .int .i64 0, .bool false, .bool false, .bool false, .bool false, .int .i64 0, .int .i64 0, .slice none 0 0, .slice none 0 0, .slice none 0 0, .slice none 0 0] (grown_below BB2_ none) (Nat.le_refl _)
                    simp only [putAll] at pF GF
                    have e0 := (blk_cell pF 0).trans rfl
                    have e1 := (blk_cell pF 1).trans rfl
                    have e2 := (blk_cell pF 2).trans rfl
                    have e3 := (blk_cell pF 3).trans rfl
                    have e4 := (blk_cell pF 4).trans rfl
                    have e5 := (blk_cell pF 5).trans rfl
                    have e6 := (blk_cell pF 6).trans rfl
                    have e7 := (blk_cell pF 7).trans rfl
                    have e8 := (blk_cell pF 8).trans rfl
                    have e9 := (blk_cell pF 9).trans rfl
                    have e10 := (blk_cell pF 10).trans rfl
                    have e11 := (blk_cell pF 11).trans rfl
                    have e12 := (blk_cell pF 12).trans rfl
                    go_wp2_with fail
                    exact bodyPost_ret (v := .tuple #[.agg #[.int .i64 0, .bool false, .int .i64 0, .bool false, .bool false, .bool false, .bool false, .int .i64 0, .int .i64 0, .slice none 0 0, .slice none 0 0, .slice none 0 0, .slice none 0 0], .int .i64 700]) (by simp [results, Try.results25, go_sem, e0, e1, e2, e3, e4, e5, e6, e7, e8, e9, e10, e11, e12]) rfl (post0 s w _ 700 ⟨GF.os, GF.tape, GF.output, GF.size, fun k hk => GF.block k hk (by simp)⟩)
                  have hs3 := hr3
                  unfold many4 at hs3
                  rw [if_neg big3] at hs3
                  obtain ⟨X3, hX3⟩ := andThen_is hs3
                  have HS3 := Lib.hid hs3
                  have HX3 := Lib.hid hX3
                  clear hr3 hs3 hX3 
                  have bq3 : decide ((64 : Int) < be2 s 10) = false := decide_eq_false big3
                  go_wp2_with fail
                  obtain ⟨n3, hn3⟩ : ∃ n : Nat, be2 s 10 = (n : Int) := ⟨(be2 s 10).toNat, by omega⟩
                  have hl3 : n3 ≤ 64 := by omega
                  have HN3 := Lib.hid hn3
                  clear hn3
                  go_loopg [8, 10] (n3 + 1) (fun kk v8 v10 wr => ∃ (m : Nat) (a : Int) (acc : List Rr) (vx : Value), v8 = .int .i64 a ∧ v10 = .int .i64 (((n3 - m : Nat)) : Int) ∧ kk = m + 1 ∧ m ≤ n3 ∧ acc.length + m = n3 ∧ rR k s m a acc = some X3 ∧ wr.heap[km]? = some (.cells #[.int .i64 (Hd.getH s).id, .bool (Hd.getH s).qr, .int .i64 (Hd.getH s).op, .bool (Hd.getH s).aa, .bool (Hd.getH s).tc, .bool (Hd.getH s).rd, .bool (Hd.getH s).ra, .int .i64 (Hd.getH s).z, .int .i64 (Hd.getH s).rc, .slice A0 acc0.length c0, .slice A1 acc1.length c1, .slice A2 acc2.length c2, vx] 27 (0, 0)) ∧ wr.ownsRow W3.heap.size 53 5 vx acc.length (cellsR acc) ∧ W3.grownBy wr (some km))
                  case atStart => exact ⟨n3, at2, [], .slice none 0 0, rfl, by simp, rfl, Nat.le_refl _, by simp, by have := HX3.out; rw [HN3.out, Int.toNat_natCast] at this; exact this, bm2_, own_nil _ _ _ _, ⟨rfl, rfl, rfl, Nat.le_refl _, fun _ _ _ => rfl⟩⟩
                  case round =>
                    obtain ⟨m, a, acc, vx, rfl, rfl, hkk, hmn, hlen, hq, bmr, hown, hG⟩ := hrel
                    have HQ2 := Lib.hid hq
                    clear hq
                    have hsz := hG.size
                    have bcr := blk_grown bc2_ hG (by intro q; injection q with q; exact hcm q)
                    have p0r := blk_grown p02_ hG (by intro q; injection q with q; exact hpm q)
                    have BR : Below w.heap.size w wr := BB2_.grown hG BB2_.size (fun k e => by injection e with e; omega)
                    have cj : wr.cell? ⟨kc, 3, none⟩ = some (.int .i64 (be2 s 10)) := (blk_cell bcr 3).trans rfl
                    have hmgt : w.heap.size ≠ km := hpm
                    cases m with
                    | succ m =>
                      have q0 : decide ((((n3 - (m + 1) : Nat)) : Int) < be2 s 10) = true := by rw [HN3.out]; simp; omega
                      have hq := HQ2.out
                      clear HQ2
                      unfold rR at hq
                      obtain ⟨x, hx, hq⟩ := Option.bind_eq_some_iff.1 hq
                      obtain ⟨xn, xt, xc, xl, xd, xto, xok⟩ := x
                      have kq := PRf.wimpleref4_record.calls k s a xn xt xc xl xd xto xok wr hx
                      have HQ3 := Lib.hid hq
                      clear hq hx
                      go_wp2_with fail
                      refine kq.mono ?_
                      rintro e w2 ⟨rfl, B2⟩
                      clear kq
                      go_upto_region 23 with (fail)
                      have Bx : Below w2.heap.size w2 (w2.alloc (.cells #[.string xn, .int .i64 xt, .int .i64 xc, .int .i64 xl, .string xd] 53)) := (Below.refl _ _).alloc (Nat.le_refl _) _
                      have bq2 := blk_new w2 (.cells #[.string xn, .int .i64 xt, .int .i64 xc, .int .i64 xl, .string xd] 53)
                      have bm2 := blk_below (blk_below bmr B2) Bx
                      have p02 := blk_below (blk_below p0r B2) Bx
                      have BR2 := (BR.trans (B2.mono BR.size)).trans (Bx.mono (BR.trans (B2.mono BR.size)).size)
                      have own2 := Sl.own_below (Sl.own_below hown B2) Bx
                      have G2 := grown_alloc' (hG.trans (grown_below B2 (some km))) (.cells #[.string xn, .int .i64 xt, .int .i64 xc, .int .i64 xl, .string xd] 53)
                      have s2 := G2.size
                      clear bmr p0r BR hown hG bcr cj B2 Bx hsz
                      generalize w2.alloc (.cells #[.string xn, .int .i64 xt, .int .i64 xc, .int .i64 xl, .string xd] 53) = w3 at *
                      generalize w2.heap.size = gq at *
                      have cq0 : w3.cell? ⟨gq, 0, none⟩ = some (.string xn) := (blk_cell bq2 0).trans rfl
                      have cq1 : w3.cell? ⟨gq, 1, none⟩ = some (.int .i64 xt) := (blk_cell bq2 1).trans rfl
                      have cq2 : w3.cell? ⟨gq, 2, none⟩ = some (.int .i64 xc) := (blk_cell bq2 2).trans rfl
                      have cq3 : w3.cell? ⟨gq, 3, none⟩ = some (.int .i64 xl) := (blk_cell bq2 3).trans rfl
                      have cq4 : w3.cell? ⟨gq, 4, none⟩ = some (.string xd) := (blk_cell bq2 4).trans rfl
                      cases xok with
                      | false =>
                        have hr : got0 700 = r := andThen_none (by rw [HX3.out]; have := HQ3.out; simp at this; rw [← this]) HS3.out
                        subst hr
                        have x0 : w3.cell? ⟨w.heap.size, 0, none⟩ = some (.int .i64 0) := (blk_cell p02 0).trans rfl
                        have x1 : w3.cell? ⟨w.heap.size, 1, none⟩ = some (.bool false) := (blk_cell p02 1).trans rfl
                        have x2 : w3.cell? ⟨w.heap.size, 2, none⟩ = some (.int .i64 0) := (blk_cell p02 2).trans rfl
                        have x3 : w3.cell? ⟨w.heap.size, 3, none⟩ = some (.bool false) := (blk_cell p02 3).trans rfl
                        have x4 : w3.cell? ⟨w.heap.size, 4, none⟩ = some (.bool false) := (blk_cell p02 4).trans rfl
                        have x5 : w3.cell? ⟨w.heap.size, 5, none⟩ = some (.bool false) := (blk_cell p02 5).trans rfl
                        have x6 : w3.cell? ⟨w.heap.size, 6, none⟩ = some (.bool false) := (blk_cell p02 6).trans rfl
                        have x7 : w3.cell? ⟨w.heap.size, 7, none⟩ = some (.int .i64 0) := (blk_cell p02 7).trans rfl
                        have x8 : w3.cell? ⟨w.heap.size, 8, none⟩ = some (.int .i64 0) := (blk_cell p02 8).trans rfl
                        have x9 : w3.cell? ⟨w.heap.size, 9, none⟩ = some (.slice none 0 0) := (blk_cell p02 9).trans rfl
                        have x10 : w3.cell? ⟨w.heap.size, 10, none⟩ = some (.slice none 0 0) := (blk_cell p02 10).trans rfl
                        have x11 : w3.cell? ⟨w.heap.size, 11, none⟩ = some (.slice none 0 0) := (blk_cell p02 11).trans rfl
                        have x12 : w3.cell? ⟨w.heap.size, 12, none⟩ = some (.slice none 0 0) := (blk_cell p02 12).trans rfl
                        have y0 := blk_frozen p02 0
                        have y1 := blk_frozen p02 1
                        have y2 := blk_frozen p02 2
                        have y3 := blk_frozen p02 3
                        have y4 := blk_frozen p02 4
                        have y5 := blk_frozen p02 5
                        have y6 := blk_frozen p02 6
                        have y7 := blk_frozen p02 7
                        have y8 := blk_frozen p02 8
                        have y9 := blk_frozen p02 9
                        have y10 := blk_frozen p02 10
                        have y11 := blk_frozen p02 11
                        have y12 := blk_frozen p02 12
                        have pF := putAll_blk 0 [.int .i64 0, .bool false, .int .i64 0, .bool false, .bool false, .bool false, .bool false, .int .i64 0, .int .i64 0, .slice none 0 0, .slice none 0 0, .slice none 0 0, .slice none 0 0] #[.int .i64 0, .bool false, .int .i64 0, .bool false, .bool false, .bool false, .bool false, .int .i64 0, .int .i64 0, .slice none 0 0, .slice none 0 0, .slice none 0 0, .slice none 0 0] p02 (by simp [setAll])
                        have GF := putAll_grown (row := none) 0 [.int .i64 0, .bool false, .int .i64 0, .bool false, .bool false, .bool false, .bool false, .int .i64 0, .int .i64 0, .slice none 0 0, .slice none 0 0, .slice none 0 0, .slice none 0 0] (grown_below BR2 none) (Nat.le_refl _)
                        simp only [putAll] at pF GF
                        have e0 := (blk_cell pF 0).trans rfl
                        have e1 := (blk_cell pF 1).trans rfl
                        have e2 := (blk_cell pF 2).trans rfl
                        have e3 := (blk_cell pF 3).trans rfl
                        have e4 := (blk_cell pF 4).trans rfl
                        have e5 := (blk_cell pF 5).trans rfl
                        have e6 := (blk_cell pF 6).trans rfl
                        have e7 := (blk_cell pF 7).trans rfl
                        have e8 := (blk_cell pF 8).trans rfl
                        have e9 := (blk_cell pF 9).trans rfl
                        have e10 := (blk_cell pF 10).trans rfl
                        have e11 := (blk_cell pF 11).trans rfl
                        have e12 := (blk_cell pF 12).trans rfl
                        go_wp2_with fail
                        exact bodyPost_ret (v := .tuple #[.agg #[.int .i64 0, .bool false, .int .i64 0, .bool false, .bool false, .bool false, .bool false, .int .i64 0, .int .i64 0, .slice none 0 0, .slice none 0 0, .slice none 0 0, .slice none 0 0], .int .i64 700]) (by simp [results, Try.results25, go_sem, e0, e1, e2, e3, e4, e5, e6, e7, e8, e9, e10, e11, e12]) rfl (post0 s w _ 700 ⟨GF.os, GF.tape, GF.output, GF.size, fun k hk => GF.block k hk (by simp)⟩)
                      | true =>
                        have hq3 := HQ3.out
                        simp only [if_true] at hq3
                        have HQ4 := Lib.hid hq3
                        clear hq3 HQ3 p02 BR2
                        obtain ⟨Ax, cx, rfl⟩ := Sl.own_slice own2
                        have cb : w3.cell? ⟨km, 12, none⟩ = some (.slice Ax acc.length cx) := (blk_cell bm2 12).trans rfl
                        go_wp2_with (at_builtin; refine app_elem W3.heap.size rfl _ _ 25 53 (.agg #[.string ⟨#[]⟩, .int .i64 0, .int .i64 0, .int .i64 0, .string ⟨#[]⟩]) 5 56 rfl Try.underlying25 info_R rfl (by decide) own2 #[.string xn, .int .i64 xt, .int .i64 xc, .int .i64 xl, .string xd] rfl rfl rfl ?h1 s2 ?hn ?hl ?_)
                        case h1 => exact ⟨rfl, rfl, rfl, rfl, rfl⟩
                        case hn => omega
                        case hl => omega
                        intro v4 w4 own4 g4
                        have Ba : ∀ (Z : World) (o : Obj), Below Z.heap.size Z (Z.alloc o) := fun Z o => (Below.refl _ _).alloc (Nat.le_refl _) o
                        have own3a := Sl.own_below own2 (Ba _ (.cells #[.string xn, .int .i64 xt, .int .i64 xc, .int .i64 xl, .string xd] 53))
                        have bm4 := blk_grown (blk_below bm2 (Ba _ (.cells #[.string xn, .int .i64 xt, .int .i64 xc, .int .i64 xl, .string xd] 53))) g4 (own_ne own3a (blk_below bm2 (Ba _ (.cells #[.string xn, .int .i64 xt, .int .i64 xc, .int .i64 xl, .string xd] 53))) (by decide))
                        have G4 := grown_own (grown_alloc' G2 (.cells #[.string xn, .int .i64 xt, .int .i64 xc, .int .i64 xl, .string xd] 53)) g4 (fun b e => Sl.own_base own2 b e)
                        obtain ⟨A4, c4, rfl⟩ := Sl.own_slice own4
                        have c44 : w4.cell? ⟨km, 12, none⟩ = some (.slice Ax acc.length cx) := (blk_cell bm4 12).trans rfl
                        have f44 := blk_frozen bm4 12
                        have bm5 := blk_put bm4 12 (.slice A4 (acc.length + 1) c4) rfl
                        have own5 := own_setCell (p := ⟨km, 12, none⟩) own4 (own_ne own4 bm4 (by decide)) (.slice A4 (acc.length + 1) c4)
                        have G5 := grown_set' G4 12 (.slice A4 (acc.length + 1) c4)
                        clear own2 own3a bm2 G2 s2 cb Ba g4 bm4 own4 G4 bq2
                        go_wp2_with fail
                        go_roundg (m + 1)
                        case measure => omega
                        case rel =>
                          refine ⟨m, xto, acc ++ [(⟨xn, xt, xc, xl, xd⟩ : Rr)], _, rfl, ?_, rfl, by omega, by simp; omega, HQ4.out, bm5, ?_, G5⟩
                          · have e1 : ((n3 - (m + 1) : Nat) : Int) + 1 = ((n3 - m : Nat) : Int) := by omega
                            first | rw [e1] | (congr 1)
                          · rw [List.length_append, cellsR_app]; simpa [cellsR] using own5
                    | zero =>
                      rw [Nat.sub_zero]
                      have q0 : decide ((n3 : Int) < be2 s 10) = false := by rw [HN3.out]; simp
                      have hq := HQ2.out
                      clear HQ2
                      unfold rR at hq
                      have hs : _ = some r := andThen_some (by rw [HX3.out]; exact hq.symm) HS3.out
                      dsimp only at hs
                      have HR3 := Lib.hid hs
                      clear hs hq HX3 HS3 hkk hmn
                      go_wp2_with fail
                      obtain ⟨A3, c3, rfl⟩ := Sl.own_slice hown
                      have ow3 := hown
                      clear hown
                      have ow0n := own_other ow0 hG (by right; intro q; exact (own_ne ow0 bm2_ (by decide)) q.symm)
                      replace ow0 := ow0n
                      clear ow0n
                      have ow1n := own_other ow1 hG (by right; intro q; exact (own_ne ow1 bm2_ (by decide)) q.symm)
                      replace ow1 := ow1n
                      clear ow1n
                      have ow2n := own_other ow2 hG (by right; intro q; exact (own_ne ow2 bm2_ (by decide)) q.symm)
                      replace ow2 := ow2n
                      clear ow2n
                      have lt3 := Lib.hid (own_lt ow3)
                      have bs3 := Lib.hid (Sl.own_base ow3)
                      have hsz3 := hsz
                      obtain ⟨W4, hW4⟩ : ∃ Z : World, Z = wr := ⟨_, rfl⟩
                      subst hW4
                      skip
                      obtain ⟨acc3, ha3⟩ : ∃ z, z = acc := ⟨_, rfl⟩
                      subst ha3
                      obtain ⟨at3, hb3⟩ : ∃ z, z = a := ⟨_, rfl⟩
                      subst hb3
                      obtain ⟨bm3_, bc3_, p03_, BB3_⟩ := And.intro bmr (And.intro bcr (And.intro p0r BR))
                      clear bmr bcr p0r BR cj
                      rw [rounds_succ]
                      go_upto_region 32 with (fail)
                      have hr5 := HR3.out
                      have hr6 : ((at3 != (s.size : Int)) = true ∧ got0 700 = r) ∨ ((at3 != (s.size : Int)) = false ∧ (⟨Hd.getH s, acc0, acc1, acc2, acc3, 0⟩ : Got) = r) := by
                        by_cases e : at3 = (s.size : Int)
                        · exact .inr ⟨by simpa using e, Option.some.inj (by simpa [e] using hr5)⟩
                        · exact .inl ⟨by simpa using e, Option.some.inj (by simpa [e] using hr5)⟩
                      have HR6 := Lib.hid hr6
                      clear hr5 hr6 HR3
                      rcases HR6.out with ⟨hat, rfl⟩ | ⟨hat, rfl⟩
                      · skip
                        have x0 : W4.cell? ⟨w.heap.size, 0, none⟩ = some (.int .i64 0) := (blk_cell p03_ 0).trans rfl
                        have x1 : W4.cell? ⟨w.heap.size, 1, none⟩ = some (.bool false) := (blk_cell p03_ 1).trans rfl
                        have x2 : W4.cell? ⟨w.heap.size, 2, none⟩ = some (.int .i64 0) := (blk_cell p03_ 2).trans rfl
                        have x3 : W4.cell? ⟨w.heap.size, 3, none⟩ = some (.bool false) := (blk_cell p03_ 3).trans rfl
                        have x4 : W4.cell? ⟨w.heap.size, 4, none⟩ = some (.bool false) := (blk_cell p03_ 4).trans rfl
                        have x5 : W4.cell? ⟨w.heap.size, 5, none⟩ = some (.bool false) := (blk_cell p03_ 5).trans rfl
                        have x6 : W4.cell? ⟨w.heap.size, 6, none⟩ = some (.bool false) := (blk_cell p03_ 6).trans rfl
                        have x7 : W4.cell? ⟨w.heap.size, 7, none⟩ = some (.int .i64 0) := (blk_cell p03_ 7).trans rfl
                        have x8 : W4.cell? ⟨w.heap.size, 8, none⟩ = some (.int .i64 0) := (blk_cell p03_ 8).trans rfl
                        have x9 : W4.cell? ⟨w.heap.size, 9, none⟩ = some (.slice none 0 0) := (blk_cell p03_ 9).trans rfl
                        have x10 : W4.cell? ⟨w.heap.size, 10, none⟩ = some (.slice none 0 0) := (blk_cell p03_ 10).trans rfl
                        have x11 : W4.cell? ⟨w.heap.size, 11, none⟩ = some (.slice none 0 0) := (blk_cell p03_ 11).trans rfl
                        have x12 : W4.cell? ⟨w.heap.size, 12, none⟩ = some (.slice none 0 0) := (blk_cell p03_ 12).trans rfl
                        have y0 := blk_frozen p03_ 0
                        have y1 := blk_frozen p03_ 1
                        have y2 := blk_frozen p03_ 2
                        have y3 := blk_frozen p03_ 3
                        have y4 := blk_frozen p03_ 4
                        have y5 := blk_frozen p03_ 5
                        have y6 := blk_frozen p03_ 6
                        have y7 := blk_frozen p03_ 7
                        have y8 := blk_frozen p03_ 8
                        have y9 := blk_frozen p03_ 9
                        have y10 := blk_frozen p03_ 10
                        have y11 := blk_frozen p03_ 11
                        have y12 := blk_frozen p03_ 12
                        have pF := putAll_blk 0 [.int .i64 0, .bool false, .int .i64 0, .bool false, .bool false, .bool false, .bool false, .int .i64 0, .int .i64 0, .slice none 0 0, .slice none 0 0, .slice none 0 0, .slice none 0 0] #[.int .i64 0, .bool false, .int .i64 0, .bool false, .bool false, .bool false, .bool false, .int .i64 0, .int .i64 0, .slice none 0 0, .slice none 0 0, .slice none 0 0, .slice none 0 0] p03_ (by simp [setAll])
                        have GF := putAll_grown (row := none) 0 [.int .i64 0, .bool false, .int .i64 0, .bool false, .bool false, .bool false, .bool false, .int .i64 0, .int .i64 0, .slice none 0 0, .slice none 0 0, .slice none 0 0, .slice none 0 0] (grown_below BB3_ none) (Nat.le_refl _)
                        simp only [putAll] at pF GF
                        have e0 := (blk_cell pF 0).trans rfl
                        have e1 := (blk_cell pF 1).trans rfl
                        have e2 := (blk_cell pF 2).trans rfl
                        have e3 := (blk_cell pF 3).trans rfl
                        have e4 := (blk_cell pF 4).trans rfl
                        have e5 := (blk_cell pF 5).trans rfl
                        have e6 := (blk_cell pF 6).trans rfl
                        have e7 := (blk_cell pF 7).trans rfl
                        have e8 := (blk_cell pF 8).trans rfl
                        have e9 := (blk_cell pF 9).trans rfl
                        have e10 := (blk_cell pF 10).trans rfl
                        have e11 := (blk_cell pF 11).trans rfl
                        have e12 := (blk_cell pF 12).trans rfl
                        go_wp2_with fail
                        exact bodyPost_ret (v := .tuple #[.agg #[.int .i64 0, .bool false, .int .i64 0, .bool false, .bool false, .bool false, .bool false, .int .i64 0, .int .i64 0, .slice none 0 0, .slice none 0 0, .slice none 0 0, .slice none 0 0], .int .i64 700]) (by simp [results, Try.results25, go_sem, e0, e1, e2, e3, e4, e5, e6, e7, e8, e9, e10, e11, e12]) rfl (post0 s w _ 700 ⟨GF.os, GF.tape, GF.output, GF.size, fun k hk => GF.block k hk (by simp)⟩)
                      · skip
                        have x0 : W4.cell? ⟨w.heap.size, 0, none⟩ = some (.int .i64 0) := (blk_cell p03_ 0).trans rfl
                        have x1 : W4.cell? ⟨w.heap.size, 1, none⟩ = some (.bool false) := (blk_cell p03_ 1).trans rfl
                        have x2 : W4.cell? ⟨w.heap.size, 2, none⟩ = some (.int .i64 0) := (blk_cell p03_ 2).trans rfl
                        have x3 : W4.cell? ⟨w.heap.size, 3, none⟩ = some (.bool false) := (blk_cell p03_ 3).trans rfl
                        have x4 : W4.cell? ⟨w.heap.size, 4, none⟩ = some (.bool false) := (blk_cell p03_ 4).trans rfl
                        have x5 : W4.cell? ⟨w.heap.size, 5, none⟩ = some (.bool false) := (blk_cell p03_ 5).trans rfl
                        have x6 : W4.cell? ⟨w.heap.size, 6, none⟩ = some (.bool false) := (blk_cell p03_ 6).trans rfl
                        have x7 : W4.cell? ⟨w.heap.size, 7, none⟩ = some (.int .i64 0) := (blk_cell p03_ 7).trans rfl
                        have x8 : W4.cell? ⟨w.heap.size, 8, none⟩ = some (.int .i64 0) := (blk_cell p03_ 8).trans rfl
                        have x9 : W4.cell? ⟨w.heap.size, 9, none⟩ = some (.slice none 0 0) := (blk_cell p03_ 9).trans rfl
                        have x10 : W4.cell? ⟨w.heap.size, 10, none⟩ = some (.slice none 0 0) := (blk_cell p03_ 10).trans rfl
                        have x11 : W4.cell? ⟨w.heap.size, 11, none⟩ = some (.slice none 0 0) := (blk_cell p03_ 11).trans rfl
                        have x12 : W4.cell? ⟨w.heap.size, 12, none⟩ = some (.slice none 0 0) := (blk_cell p03_ 12).trans rfl
                        have y0 := blk_frozen p03_ 0
                        have y1 := blk_frozen p03_ 1
                        have y2 := blk_frozen p03_ 2
                        have y3 := blk_frozen p03_ 3
                        have y4 := blk_frozen p03_ 4
                        have y5 := blk_frozen p03_ 5
                        have y6 := blk_frozen p03_ 6
                        have y7 := blk_frozen p03_ 7
                        have y8 := blk_frozen p03_ 8
                        have y9 := blk_frozen p03_ 9
                        have y10 := blk_frozen p03_ 10
                        have y11 := blk_frozen p03_ 11
                        have y12 := blk_frozen p03_ 12
                        have z0 : W4.cell? ⟨km, 0, none⟩ = some (.int .i64 (Hd.getH s).id) := (blk_cell bm3_ 0).trans rfl
                        have z1 : W4.cell? ⟨km, 1, none⟩ = some (.bool (Hd.getH s).qr) := (blk_cell bm3_ 1).trans rfl
                        have z2 : W4.cell? ⟨km, 2, none⟩ = some (.int .i64 (Hd.getH s).op) := (blk_cell bm3_ 2).trans rfl
                        have z3 : W4.cell? ⟨km, 3, none⟩ = some (.bool (Hd.getH s).aa) := (blk_cell bm3_ 3).trans rfl
                        have z4 : W4.cell? ⟨km, 4, none⟩ = some (.bool (Hd.getH s).tc) := (blk_cell bm3_ 4).trans rfl
                        have z5 : W4.cell? ⟨km, 5, none⟩ = some (.bool (Hd.getH s).rd) := (blk_cell bm3_ 5).trans rfl
                        have z6 : W4.cell? ⟨km, 6, none⟩ = some (.bool (Hd.getH s).ra) := (blk_cell bm3_ 6).trans rfl
                        have z7 : W4.cell? ⟨km, 7, none⟩ = some (.int .i64 (Hd.getH s).z) := (blk_cell bm3_ 7).trans rfl
                        have z8 : W4.cell? ⟨km, 8, none⟩ = some (.int .i64 (Hd.getH s).rc) := (blk_cell bm3_ 8).trans rfl
                        have z9 : W4.cell? ⟨km, 9, none⟩ = some (.slice A0 acc0.length c0) := (blk_cell bm3_ 9).trans rfl
                        have z10 : W4.cell? ⟨km, 10, none⟩ = some (.slice A1 acc1.length c1) := (blk_cell bm3_ 10).trans rfl
                        have z11 : W4.cell? ⟨km, 11, none⟩ = some (.slice A2 acc2.length c2) := (blk_cell bm3_ 11).trans rfl
                        have z12 : W4.cell? ⟨km, 12, none⟩ = some (.slice A3 acc3.length c3) := (blk_cell bm3_ 12).trans rfl
                        have hle0 := BB0.size
                        have hle1 := BB0_.size
                        have hle2 := BB1_.size
                        have hle3 := BB2_.size
                        go_wp2_with fail
                        have pF := putAll_blk 0 [.int .i64 (Hd.getH s).id, .bool (Hd.getH s).qr, .int .i64 (Hd.getH s).op, .bool (Hd.getH s).aa, .bool (Hd.getH s).tc, .bool (Hd.getH s).rd, .bool (Hd.getH s).ra, .int .i64 (Hd.getH s).z, .int .i64 (Hd.getH s).rc, .slice A0 acc0.length c0, .slice A1 acc1.length c1, .slice A2 acc2.length c2, .slice A3 acc3.length c3] #[.int .i64 (Hd.getH s).id, .bool (Hd.getH s).qr, .int .i64 (Hd.getH s).op, .bool (Hd.getH s).aa, .bool (Hd.getH s).tc, .bool (Hd.getH s).rd, .bool (Hd.getH s).ra, .int .i64 (Hd.getH s).z, .int .i64 (Hd.getH s).rc, .slice A0 acc0.length c0, .slice A1 acc1.length c1, .slice A2 acc2.length c2, .slice A3 acc3.length c3] p03_ (by simp [setAll])
                        have GF := putAll_grown (row := none) 0 [.int .i64 (Hd.getH s).id, .bool (Hd.getH s).qr, .int .i64 (Hd.getH s).op, .bool (Hd.getH s).aa, .bool (Hd.getH s).tc, .bool (Hd.getH s).rd, .bool (Hd.getH s).ra, .int .i64 (Hd.getH s).z, .int .i64 (Hd.getH s).rc, .slice A0 acc0.length c0, .slice A1 acc1.length c1, .slice A2 acc2.length c2, .slice A3 acc3.length c3] (grown_below BB3_ none) (Nat.le_refl _)
                        have o0 := putAll_own 0 [.int .i64 (Hd.getH s).id, .bool (Hd.getH s).qr, .int .i64 (Hd.getH s).op, .bool (Hd.getH s).aa, .bool (Hd.getH s).tc, .bool (Hd.getH s).rd, .bool (Hd.getH s).ra, .int .i64 (Hd.getH s).z, .int .i64 (Hd.getH s).rc, .slice A0 acc0.length c0, .slice A1 acc1.length c1, .slice A2 acc2.length c2, .slice A3 acc3.length c3] ow0 (own_ne ow0 p03_ (by decide))
                        have o1 := putAll_own 0 [.int .i64 (Hd.getH s).id, .bool (Hd.getH s).qr, .int .i64 (Hd.getH s).op, .bool (Hd.getH s).aa, .bool (Hd.getH s).tc, .bool (Hd.getH s).rd, .bool (Hd.getH s).ra, .int .i64 (Hd.getH s).z, .int .i64 (Hd.getH s).rc, .slice A0 acc0.length c0, .slice A1 acc1.length c1, .slice A2 acc2.length c2, .slice A3 acc3.length c3] ow1 (own_ne ow1 p03_ (by decide))
                        have o2 := putAll_own 0 [.int .i64 (Hd.getH s).id, .bool (Hd.getH s).qr, .int .i64 (Hd.getH s).op, .bool (Hd.getH s).aa, .bool (Hd.getH s).tc, .bool (Hd.getH s).rd, .bool (Hd.getH s).ra, .int .i64 (Hd.getH s).z, .int .i64 (Hd.getH s).rc, .slice A0 acc0.length c0, .slice A1 acc1.length c1, .slice A2 acc2.length c2, .slice A3 acc3.length c3] ow2 (own_ne ow2 p03_ (by decide))
                        have o3 := putAll_own 0 [.int .i64 (Hd.getH s).id, .bool (Hd.getH s).qr, .int .i64 (Hd.getH s).op, .bool (Hd.getH s).aa, .bool (Hd.getH s).tc, .bool (Hd.getH s).rd, .bool (Hd.getH s).ra, .int .i64 (Hd.getH s).z, .int .i64 (Hd.getH s).rc, .slice A0 acc0.length c0, .slice A1 acc1.length c1, .slice A2 acc2.length c2, .slice A3 acc3.length c3] ow3 (own_ne ow3 p03_ (by decide))
                        simp only [putAll] at pF GF o0 o1 o2 o3
                        have e0 := (blk_cell pF 0).trans rfl
                        have e1 := (blk_cell pF 1).trans rfl
                        have e2 := (blk_cell pF 2).trans rfl
                        have e3 := (blk_cell pF 3).trans rfl
                        have e4 := (blk_cell pF 4).trans rfl
                        have e5 := (blk_cell pF 5).trans rfl
                        have e6 := (blk_cell pF 6).trans rfl
                        have e7 := (blk_cell pF 7).trans rfl
                        have e8 := (blk_cell pF 8).trans rfl
                        have e9 := (blk_cell pF 9).trans rfl
                        have e10 := (blk_cell pF 10).trans rfl
                        have e11 := (blk_cell pF 11).trans rfl
                        have e12 := (blk_cell pF 12).trans rfl
                        refine bodyPost_ret (v := .tuple #[.agg #[.int .i64 (Hd.getH s).id, .bool (Hd.getH s).qr, .int .i64 (Hd.getH s).op, .bool (Hd.getH s).aa, .bool (Hd.getH s).tc, .bool (Hd.getH s).rd, .bool (Hd.getH s).ra, .int .i64 (Hd.getH s).z, .int .i64 (Hd.getH s).rc, .slice A0 acc0.length c0, .slice A1 acc1.length c1, .slice A2 acc2.length c2, .slice A3 acc3.length c3], .int .i64 0]) (by simp [results, Try.results25, go_sem, e0, e1, e2, e3, e4, e5, e6, e7, e8, e9, e10, e11, e12]) rfl ?_
                        refine ⟨_, _, _, _, rfl, own_lower o0 hle0, own_lower o1 hle1, own_lower o2 hle2, own_lower o3 hle3, ?k1, ?k2, ?k3, ⟨GF.os, GF.tape, GF.output, GF.size, fun k hk => GF.block k hk (by simp)⟩⟩
                        case k1 => exact fun k hk => ⟨fun q => by have a := lt1.out k hk; have b := bs2.out k q.symm; omega, fun q => by have a := lt1.out k hk; have b := bs3.out k q.symm; omega⟩
                        case k2 => exact fun k hk => ⟨fun q => by have a := lt1.out k q.symm; have b := bs2.out k hk; omega, fun q => by have a := lt2.out k hk; have b := bs3.out k q.symm; omega⟩
                        case k3 => exact fun k hk => ⟨fun q => by have a := lt1.out k q.symm; have b := bs3.out k hk; omega, fun q => by have a := lt2.out k q.symm; have b := bs3.out k hk; omega⟩
end Go.Proofs.Ytjklgdpffmaamaa.Wm
