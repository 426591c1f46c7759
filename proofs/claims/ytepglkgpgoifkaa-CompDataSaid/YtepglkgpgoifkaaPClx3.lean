-- Written by a program of this session out of the translation (the kit's print, changed: ppatch.py); not the kit's own print.
import Derived.Test.YtepglkgpgoifkaaPClx0
import Derived.Test.YtepglkgpgoifkaaPClx1
import Derived.Test.YtepglkgpgoifkaaPClx2
namespace Go.Proofs.Ytepglkgpgoifkaa.PCl
open Go.RowKit Go.Proofs.YtepglkgpgoifkaaW.PrintWords Go.Proofs.YtepglkgpgoifkaaW.PrintLast Go.Proofs.YtepglkgpgoifkaaW.PrintMore
attribute [local go_sem] max2_int min2_int max_two min_two max_three min_three max_four min_four   -- for this text's walks alone
set_option linter.unusedVariables false
set_option linter.unusedSimpArgs false

/-! ### wimplelaw5_CompLoops: function 5 -/
def wimplelaw5_CompLoops.f (k : Nat) (a0 : ByteArray) (a1 : Int) : Option (Bool) := (wimplelaw5_awake.f).bind fun t130 => (if t130 = true then (if (a0.size : Int) > 1000 then (some true) else ((wimplelaw5_pointer.f (a0.size : Int)).bind fun t131 => (if a0.size + t131.size ≤ 9223372036854775807 then ((comp_Name.f k (a0 ++ t131) (a0.size : Int)).bind fun bt132 => ((wimplelaw5_pointer.f (wrap64 ((wrap64 ((a0.size : Int) + 2)) + (Go.bits .and .i64 a1 63)))).bind fun t135 => (if a0.size + t135.size ≤ 9223372036854775807 then (if 70 ≤ 281474976710656 then ((some (List.replicate 70 0 : List Int)).bind fun y136 => (if (a0 ++ t135).size + (strOfNums y136).size ≤ 9223372036854775807 then ((comp_Name.f k ((a0 ++ t135) ++ (strOfNums y136)) (a0.size : Int)).bind fun bt139 => (if a0.size + 2 ≤ 9223372036854775807 then ((wimplelaw5_pointer.f (a0.size : Int)).bind fun t142 => (if (a0 ++ (⟨#[1, 97]⟩ : ByteArray)).size + t142.size ≤ 9223372036854775807 then ((comp_Name.f k ((a0 ++ (⟨#[1, 97]⟩ : ByteArray)) ++ t142) (a0.size : Int)).bind fun bt143 => ((wimplelaw5_pointer.f (wrap64 ((a0.size : Int) + 2))).bind fun t146 => (if (a0 ++ (⟨#[1, 97]⟩ : ByteArray)).size + t146.size ≤ 9223372036854775807 then ((comp_Name.f k ((a0 ++ (⟨#[1, 97]⟩ : ByteArray)) ++ t146) (a0.size : Int)).bind fun bt147 => (if a0.size + 1 ≤ 9223372036854775807 then ((comp_Name.f k (a0 ++ (⟨#[192]⟩ : ByteArray)) (a0.size : Int)).bind fun bt150 => ((some (([(wrap64 (64 + (Go.bits .and .i64 a1 127))) % 256, 0] : List Int) : List Int)).bind fun y153 => (if a0.size + (strOfNums y153).size ≤ 9223372036854775807 then ((comp_Name.f k (a0 ++ (strOfNums y153)) (a0.size : Int)).bind fun bt156 => ((comp_Name.f k a0 (wrap64 ((-1) - (Go.bits .and .i64 a1 63)))).bind fun bt159 => ((comp_Name.f k a0 (a0.size : Int)).bind fun bt162 => ((wimplelaw0_Num.f bt132.2.2).bind fun t165 => (if t165 = 500 then ((wimplelaw0_Num.f bt139.2.2).bind fun t166 => (if t166 = 500 then ((wimplelaw0_Num.f bt143.2.2).bind fun t167 => (if t167 = 500 then ((wimplelaw0_Num.f bt147.2.2).bind fun t168 => (if t168 = 500 then ((wimplelaw0_Num.f bt150.2.2).bind fun t169 => (if t169 = 500 then ((wimplelaw0_Num.f bt156.2.2).bind fun t170 => (if t170 = 500 then ((wimplelaw0_Num.f bt159.2.2).bind fun t171 => (if t171 = 500 then ((wimplelaw0_Num.f bt162.2.2).bind fun t172 => (some (t172 == 500))) else (none))) else (none))) else (none))) else (none))) else (none))) else (none))) else (none)))))) else (none)))) else (none))) else (none)))) else (none))) else (none))) else (none))) else (none)) else (none)))) else (none)))) else (none))
theorem wimplelaw5_CompLoops.mono : ∀ a0 a1 k, LeO (wimplelaw5_CompLoops.f k a0 a1) (wimplelaw5_CompLoops.f (k + 1) a0 a1) := by
  intro a0 a1 k
  unfold wimplelaw5_CompLoops.f
  repeat' first
      | (with_reducible exact comp_Name.mono _ _ _)
      | (with_reducible exact LeO.refl _)
      | (with_reducible exact LeO.none _)
      | (with_reducible refine LeO.ite ?_ ?_)
      | (with_reducible refine LeO.bind ?_ (fun _ => ?_))
      | exact comp_Name.mono _ _ _
      | exact LeO.none _
      | refine LeO.ite ?_ ?_
      | refine LeO.bind ?_ (fun _ => ?_)
def wimplelaw5_CompLoops.T8 : Bool × List (List Nat × List Nat) := (true, [([], []), ([], []), ([1], [1]), ([], []), ([3], [3]), ([2, 4], [2, 4]), ([5], [5]), ([0, 6], [0, 6]), ([], []), ([8], [8]), ([7, 9], [7, 9]), ([], []), ([10, 11, 6], [10, 11]), ([12], [12]), ([13], [13]), ([13], [13]), ([13], [13]), ([14, 12, 0, 1, 2, 3, 4, 5, 6, 7, 8, 9, 10, 11, 12, 13, 14], [14]), ([15, 17, 0, 1, 2, 3, 4, 5, 6, 7, 8, 9, 10, 11, 12, 13, 14, 15, 17], [15]), ([16, 18, 0, 1, 2, 3, 4, 5, 6, 7, 8, 9, 10, 11, 12, 13, 14, 15, 16, 17, 18], [16])])
def wimplelaw5_CompLoops.B8 : List Nat := [0, 0, 2, 0, 8, 30, 62, 127, 0, 256, 1023, 0, 4095, 8191, 16383, 16383, 16383, 32767, 196607, 524287]
theorem wimplelaw5_CompLoops.tab8 : rtab .any (opsOf Try.f5 8) = wimplelaw5_CompLoops.T8 := by kernel_rfl
theorem wimplelaw5_CompLoops.bits8 : waitsOk wimplelaw5_CompLoops.T8.2 wimplelaw5_CompLoops.B8 = true := by kernel_rfl
set_option maxHeartbeats 8000000 in
set_option maxRecDepth 100000 in
theorem wimplelaw5_CompLoops.calls (k : Nat) (a0 : ByteArray) (a1 : Int) (r : Bool) (w : World) (h : wimplelaw5_CompLoops.f k a0 a1 = some r) :
    Calls Try.prog 5 #[.string a0, .int .i64 a1] w fun e w' => e = .returned (.bool r) ∧ Below w.heap.size w w' := by
  have HB := Aside0.mk (Below.refl w.heap.size w)
  have H : ((wimplelaw5_awake.f).bind fun t130 => (if t130 = true then (if (a0.size : Int) > 1000 then (some true) else ((wimplelaw5_pointer.f (a0.size : Int)).bind fun t131 => (if a0.size + t131.size ≤ 9223372036854775807 then ((comp_Name.f k (a0 ++ t131) (a0.size : Int)).bind fun bt132 => ((wimplelaw5_pointer.f (wrap64 ((wrap64 ((a0.size : Int) + 2)) + (Go.bits .and .i64 a1 63)))).bind fun t135 => (if a0.size + t135.size ≤ 9223372036854775807 then (if 70 ≤ 281474976710656 then ((some (List.replicate 70 0 : List Int)).bind fun y136 => (if (a0 ++ t135).size + (strOfNums y136).size ≤ 9223372036854775807 then ((comp_Name.f k ((a0 ++ t135) ++ (strOfNums y136)) (a0.size : Int)).bind fun bt139 => (if a0.size + 2 ≤ 9223372036854775807 then ((wimplelaw5_pointer.f (a0.size : Int)).bind fun t142 => (if (a0 ++ (⟨#[1, 97]⟩ : ByteArray)).size + t142.size ≤ 9223372036854775807 then ((comp_Name.f k ((a0 ++ (⟨#[1, 97]⟩ : ByteArray)) ++ t142) (a0.size : Int)).bind fun bt143 => ((wimplelaw5_pointer.f (wrap64 ((a0.size : Int) + 2))).bind fun t146 => (if (a0 ++ (⟨#[1, 97]⟩ : ByteArray)).size + t146.size ≤ 9223372036854775807 then ((comp_Name.f k ((a0 ++ (⟨#[1, 97]⟩ : ByteArray)) ++ t146) (a0.size : Int)).bind fun bt147 => (if a0.size + 1 ≤ 9223372036854775807 then ((comp_Name.f k (a0 ++ (⟨#[192]⟩ : ByteArray)) (a0.size : Int)).bind fun bt150 => ((some (([(wrap64 (64 + (Go.bits .and .i64 a1 127))) % 256, 0] : List Int) : List Int)).bind fun y153 => (if a0.size + (strOfNums y153).size ≤ 9223372036854775807 then ((comp_Name.f k (a0 ++ (strOfNums y153)) (a0.size : Int)).bind fun bt156 => ((comp_Name.f k a0 (wrap64 ((-1) - (Go.bits .and .i64 a1 63)))).bind fun bt159 => ((comp_Name.f k a0 (a0.size : Int)).bind fun bt162 => ((wimplelaw0_Num.f bt132.2.2).bind fun t165 => (if t165 = 500 then ((wimplelaw0_Num.f bt139.2.2).bind fun t166 => (if t166 = 500 then ((wimplelaw0_Num.f bt143.2.2).bind fun t167 => (if t167 = 500 then ((wimplelaw0_Num.f bt147.2.2).bind fun t168 => (if t168 = 500 then ((wimplelaw0_Num.f bt150.2.2).bind fun t169 => (if t169 = 500 then ((wimplelaw0_Num.f bt156.2.2).bind fun t170 => (if t170 = 500 then ((wimplelaw0_Num.f bt159.2.2).bind fun t171 => (if t171 = 500 then ((wimplelaw0_Num.f bt162.2.2).bind fun t172 => (some (t172 == 500))) else (none))) else (none))) else (none))) else (none))) else (none))) else (none))) else (none)))))) else (none)))) else (none))) else (none)))) else (none))) else (none))) else (none))) else (none)) else (none)))) else (none)))) else (none))) = some r := h
  clear h
  replace H := Option.bind_eq_some_iff.mp H
  obtain ⟨t130, A30, H⟩ := H
  replace H : (if t130 = true then (if (a0.size : Int) > 1000 then (some true) else ((wimplelaw5_pointer.f (a0.size : Int)).bind fun t131 => (if a0.size + t131.size ≤ 9223372036854775807 then ((comp_Name.f k (a0 ++ t131) (a0.size : Int)).bind fun bt132 => ((wimplelaw5_pointer.f (wrap64 ((wrap64 ((a0.size : Int) + 2)) + (Go.bits .and .i64 a1 63)))).bind fun t135 => (if a0.size + t135.size ≤ 9223372036854775807 then (if 70 ≤ 281474976710656 then ((some (List.replicate 70 0 : List Int)).bind fun y136 => (if (a0 ++ t135).size + (strOfNums y136).size ≤ 9223372036854775807 then ((comp_Name.f k ((a0 ++ t135) ++ (strOfNums y136)) (a0.size : Int)).bind fun bt139 => (if a0.size + 2 ≤ 9223372036854775807 then ((wimplelaw5_pointer.f (a0.size : Int)).bind fun t142 => (if (a0 ++ (⟨#[1, 97]⟩ : ByteArray)).size + t142.size ≤ 9223372036854775807 then ((comp_Name.f k ((a0 ++ (⟨#[1, 97]⟩ : ByteArray)) ++ t142) (a0.size : Int)).bind fun bt143 => ((wimplelaw5_pointer.f (wrap64 ((a0.size : Int) + 2))).bind fun t146 => (if (a0 ++ (⟨#[1, 97]⟩ : ByteArray)).size + t146.size ≤ 9223372036854775807 then ((comp_Name.f k ((a0 ++ (⟨#[1, 97]⟩ : ByteArray)) ++ t146) (a0.size : Int)).bind fun bt147 => (if a0.size + 1 ≤ 9223372036854775807 then ((comp_Name.f k (a0 ++ (⟨#[192]⟩ : ByteArray)) (a0.size : Int)).bind fun bt150 => ((some (([(wrap64 (64 + (Go.bits .and .i64 a1 127))) % 256, 0] : List Int) : List Int)).bind fun y153 => (if a0.size + (strOfNums y153).size ≤ 9223372036854775807 then ((comp_Name.f k (a0 ++ (strOfNums y153)) (a0.size : Int)).bind fun bt156 => ((comp_Name.f k a0 (wrap64 ((-1) - (Go.bits .and .i64 a1 63)))).bind fun bt159 => ((comp_Name.f k a0 (a0.size : Int)).bind fun bt162 => ((wimplelaw0_Num.f bt132.2.2).bind fun t165 => (if t165 = 500 then ((wimplelaw0_Num.f bt139.2.2).bind fun t166 => (if t166 = 500 then ((wimplelaw0_Num.f bt143.2.2).bind fun t167 => (if t167 = 500 then ((wimplelaw0_Num.f bt147.2.2).bind fun t168 => (if t168 = 500 then ((wimplelaw0_Num.f bt150.2.2).bind fun t169 => (if t169 = 500 then ((wimplelaw0_Num.f bt156.2.2).bind fun t170 => (if t170 = 500 then ((wimplelaw0_Num.f bt159.2.2).bind fun t171 => (if t171 = 500 then ((wimplelaw0_Num.f bt162.2.2).bind fun t172 => (some (t172 == 500))) else (none))) else (none))) else (none))) else (none))) else (none))) else (none))) else (none)))))) else (none)))) else (none))) else (none)))) else (none))) else (none))) else (none))) else (none)) else (none)))) else (none)))) else (none)) = some r := H
  have A3 := Aside0.mk A30
  clear A30
  by_cases c4 : t130 = true
  · subst c4
    have H1 : (if (a0.size : Int) > 1000 then (some true) else ((wimplelaw5_pointer.f (a0.size : Int)).bind fun t131 => (if a0.size + t131.size ≤ 9223372036854775807 then ((comp_Name.f k (a0 ++ t131) (a0.size : Int)).bind fun bt132 => ((wimplelaw5_pointer.f (wrap64 ((wrap64 ((a0.size : Int) + 2)) + (Go.bits .and .i64 a1 63)))).bind fun t135 => (if a0.size + t135.size ≤ 9223372036854775807 then (if 70 ≤ 281474976710656 then ((some (List.replicate 70 0 : List Int)).bind fun y136 => (if (a0 ++ t135).size + (strOfNums y136).size ≤ 9223372036854775807 then ((comp_Name.f k ((a0 ++ t135) ++ (strOfNums y136)) (a0.size : Int)).bind fun bt139 => (if a0.size + 2 ≤ 9223372036854775807 then ((wimplelaw5_pointer.f (a0.size : Int)).bind fun t142 => (if (a0 ++ (⟨#[1, 97]⟩ : ByteArray)).size + t142.size ≤ 9223372036854775807 then ((comp_Name.f k ((a0 ++ (⟨#[1, 97]⟩ : ByteArray)) ++ t142) (a0.size : Int)).bind fun bt143 => ((wimplelaw5_pointer.f (wrap64 ((a0.size : Int) + 2))).bind fun t146 => (if (a0 ++ (⟨#[1, 97]⟩ : ByteArray)).size + t146.size ≤ 9223372036854775807 then ((comp_Name.f k ((a0 ++ (⟨#[1, 97]⟩ : ByteArray)) ++ t146) (a0.size : Int)).bind fun bt147 => (if a0.size + 1 ≤ 9223372036854775807 then ((comp_Name.f k (a0 ++ (⟨#[192]⟩ : ByteArray)) (a0.size : Int)).bind fun bt150 => ((some (([(wrap64 (64 + (Go.bits .and .i64 a1 127))) % 256, 0] : List Int) : List Int)).bind fun y153 => (if a0.size + (strOfNums y153).size ≤ 9223372036854775807 then ((comp_Name.f k (a0 ++ (strOfNums y153)) (a0.size : Int)).bind fun bt156 => ((comp_Name.f k a0 (wrap64 ((-1) - (Go.bits .and .i64 a1 63)))).bind fun bt159 => ((comp_Name.f k a0 (a0.size : Int)).bind fun bt162 => ((wimplelaw0_Num.f bt132.2.2).bind fun t165 => (if t165 = 500 then ((wimplelaw0_Num.f bt139.2.2).bind fun t166 => (if t166 = 500 then ((wimplelaw0_Num.f bt143.2.2).bind fun t167 => (if t167 = 500 then ((wimplelaw0_Num.f bt147.2.2).bind fun t168 => (if t168 = 500 then ((wimplelaw0_Num.f bt150.2.2).bind fun t169 => (if t169 = 500 then ((wimplelaw0_Num.f bt156.2.2).bind fun t170 => (if t170 = 500 then ((wimplelaw0_Num.f bt159.2.2).bind fun t171 => (if t171 = 500 then ((wimplelaw0_Num.f bt162.2.2).bind fun t172 => (some (t172 == 500))) else (none))) else (none))) else (none))) else (none))) else (none))) else (none))) else (none)))))) else (none)))) else (none))) else (none)))) else (none))) else (none))) else (none))) else (none)) else (none)))) else (none)))) = some r := by rw [if_pos rfl] at H; exact H
    clear H
    have H := H1
    clear H1
    by_cases c5 : (a0.size : Int) > 1000
    · rw [if_pos c5] at H
      have c5b0 : decide (1000 < (a0.size : Int)) = true := decide_eq_true c5
      have c5b1 : decide (1000 < a0.size) = true := decide_eq_true (by omega)
      clear c5
      obtain rfl := Option.some.inj H
      go_enter Try.func5, Try.ntmps5
      go_wp2_with (first | ((with_reducible refine gate_dst (N := 32) rfl ?_); (with_reducible refine gate_callee (f := 20) rfl ?_); refine goesL_ (some 32) rfl rfl Try.func20 (by kernel_rfl) rfl #[] rfl (by (try simp only [List.map_toArray, List.map_cons, List.map_nil]); first | done | rfl | (simp only [List.length_drop, List.length_take]; rfl)) ?_; (with_reducible refine (wimplelaw5_awake.calls  true _ A3.out).mono ?_); rintro e w6 ⟨rfl, hb⟩; refine ⟨_, rfl, ?_⟩; have n0_ := Aside0.mk (below_step (by repeat (first | (with_reducible first | exact HB.out | apply below_alloc | apply pw_below_drewN | apply below_drew1) | exact HB.out)) hb); clear HB; have HB := n0_; clear n0_; (try clear hb); (try clear hb2); (try clear hk); (try clear hi)))
      go_ret
      exact ⟨by first | rfl | (simp [errW_none, errW_some] <;> rfl) | (simp [*, errW_none, errW_some] <;> rfl), by repeat (first | (with_reducible first | exact HB.out | apply below_alloc | apply pw_below_drewN | apply below_drew1) | exact HB.out)⟩
    · rw [if_neg c5] at H
      have c5b0 : decide (1000 < (a0.size : Int)) = false := decide_eq_false c5
      have c5b1 : decide (1000 < a0.size) = false := decide_eq_false (by omega)
      clear c5
      replace H := Option.bind_eq_some_iff.mp H
      obtain ⟨t131, A70, H⟩ := H
      replace H : (if a0.size + t131.size ≤ 9223372036854775807 then ((comp_Name.f k (a0 ++ t131) (a0.size : Int)).bind fun bt132 => ((wimplelaw5_pointer.f (wrap64 ((wrap64 ((a0.size : Int) + 2)) + (Go.bits .and .i64 a1 63)))).bind fun t135 => (if a0.size + t135.size ≤ 9223372036854775807 then (if 70 ≤ 281474976710656 then ((some (List.replicate 70 0 : List Int)).bind fun y136 => (if (a0 ++ t135).size + (strOfNums y136).size ≤ 9223372036854775807 then ((comp_Name.f k ((a0 ++ t135) ++ (strOfNums y136)) (a0.size : Int)).bind fun bt139 => (if a0.size + 2 ≤ 9223372036854775807 then ((wimplelaw5_pointer.f (a0.size : Int)).bind fun t142 => (if (a0 ++ (⟨#[1, 97]⟩ : ByteArray)).size + t142.size ≤ 9223372036854775807 then ((comp_Name.f k ((a0 ++ (⟨#[1, 97]⟩ : ByteArray)) ++ t142) (a0.size : Int)).bind fun bt143 => ((wimplelaw5_pointer.f (wrap64 ((a0.size : Int) + 2))).bind fun t146 => (if (a0 ++ (⟨#[1, 97]⟩ : ByteArray)).size + t146.size ≤ 9223372036854775807 then ((comp_Name.f k ((a0 ++ (⟨#[1, 97]⟩ : ByteArray)) ++ t146) (a0.size : Int)).bind fun bt147 => (if a0.size + 1 ≤ 9223372036854775807 then ((comp_Name.f k (a0 ++ (⟨#[192]⟩ : ByteArray)) (a0.size : Int)).bind fun bt150 => ((some (([(wrap64 (64 + (Go.bits .and .i64 a1 127))) % 256, 0] : List Int) : List Int)).bind fun y153 => (if a0.size + (strOfNums y153).size ≤ 9223372036854775807 then ((comp_Name.f k (a0 ++ (strOfNums y153)) (a0.size : Int)).bind fun bt156 => ((comp_Name.f k a0 (wrap64 ((-1) - (Go.bits .and .i64 a1 63)))).bind fun bt159 => ((comp_Name.f k a0 (a0.size : Int)).bind fun bt162 => ((wimplelaw0_Num.f bt132.2.2).bind fun t165 => (if t165 = 500 then ((wimplelaw0_Num.f bt139.2.2).bind fun t166 => (if t166 = 500 then ((wimplelaw0_Num.f bt143.2.2).bind fun t167 => (if t167 = 500 then ((wimplelaw0_Num.f bt147.2.2).bind fun t168 => (if t168 = 500 then ((wimplelaw0_Num.f bt150.2.2).bind fun t169 => (if t169 = 500 then ((wimplelaw0_Num.f bt156.2.2).bind fun t170 => (if t170 = 500 then ((wimplelaw0_Num.f bt159.2.2).bind fun t171 => (if t171 = 500 then ((wimplelaw0_Num.f bt162.2.2).bind fun t172 => (some (t172 == 500))) else (none))) else (none))) else (none))) else (none))) else (none))) else (none))) else (none)))))) else (none)))) else (none))) else (none)))) else (none))) else (none))) else (none))) else (none)) else (none)))) else (none)) = some r := H
      have A7 := Aside0.mk A70
      clear A70
      by_cases c8 : a0.size + t131.size ≤ 9223372036854775807
      · rw [if_pos c8] at H
        have c8b0 := eq_true c8
        have c8b1 : decide (a0.size + t131.size ≤ 9223372036854775807) = true := decide_eq_true c8
        try have c8b2 : (9223372036854775807 < a0.size + t131.size) = False := eq_false (Nat.not_lt.2 c8)
        replace H := Option.bind_eq_some_iff.mp H
        obtain ⟨⟨t132, t133, t134⟩, A90, H⟩ := H
        replace H : ((wimplelaw5_pointer.f (wrap64 ((wrap64 ((a0.size : Int) + 2)) + (Go.bits .and .i64 a1 63)))).bind fun t135 => (if a0.size + t135.size ≤ 9223372036854775807 then (if 70 ≤ 281474976710656 then ((some (List.replicate 70 0 : List Int)).bind fun y136 => (if (a0 ++ t135).size + (strOfNums y136).size ≤ 9223372036854775807 then ((comp_Name.f k ((a0 ++ t135) ++ (strOfNums y136)) (a0.size : Int)).bind fun bt139 => (if a0.size + 2 ≤ 9223372036854775807 then ((wimplelaw5_pointer.f (a0.size : Int)).bind fun t142 => (if (a0 ++ (⟨#[1, 97]⟩ : ByteArray)).size + t142.size ≤ 9223372036854775807 then ((comp_Name.f k ((a0 ++ (⟨#[1, 97]⟩ : ByteArray)) ++ t142) (a0.size : Int)).bind fun bt143 => ((wimplelaw5_pointer.f (wrap64 ((a0.size : Int) + 2))).bind fun t146 => (if (a0 ++ (⟨#[1, 97]⟩ : ByteArray)).size + t146.size ≤ 9223372036854775807 then ((comp_Name.f k ((a0 ++ (⟨#[1, 97]⟩ : ByteArray)) ++ t146) (a0.size : Int)).bind fun bt147 => (if a0.size + 1 ≤ 9223372036854775807 then ((comp_Name.f k (a0 ++ (⟨#[192]⟩ : ByteArray)) (a0.size : Int)).bind fun bt150 => ((some (([(wrap64 (64 + (Go.bits .and .i64 a1 127))) % 256, 0] : List Int) : List Int)).bind fun y153 => (if a0.size + (strOfNums y153).size ≤ 9223372036854775807 then ((comp_Name.f k (a0 ++ (strOfNums y153)) (a0.size : Int)).bind fun bt156 => ((comp_Name.f k a0 (wrap64 ((-1) - (Go.bits .and .i64 a1 63)))).bind fun bt159 => ((comp_Name.f k a0 (a0.size : Int)).bind fun bt162 => ((wimplelaw0_Num.f t134).bind fun t165 => (if t165 = 500 then ((wimplelaw0_Num.f bt139.2.2).bind fun t166 => (if t166 = 500 then ((wimplelaw0_Num.f bt143.2.2).bind fun t167 => (if t167 = 500 then ((wimplelaw0_Num.f bt147.2.2).bind fun t168 => (if t168 = 500 then ((wimplelaw0_Num.f bt150.2.2).bind fun t169 => (if t169 = 500 then ((wimplelaw0_Num.f bt156.2.2).bind fun t170 => (if t170 = 500 then ((wimplelaw0_Num.f bt159.2.2).bind fun t171 => (if t171 = 500 then ((wimplelaw0_Num.f bt162.2.2).bind fun t172 => (some (t172 == 500))) else (none))) else (none))) else (none))) else (none))) else (none))) else (none))) else (none)))))) else (none)))) else (none))) else (none)))) else (none))) else (none))) else (none))) else (none)) else (none))) = some r := H
        have A9 := Aside0.mk A90
        clear A90
        replace H := Option.bind_eq_some_iff.mp H
        obtain ⟨t135, A100, H⟩ := H
        replace H : (if a0.size + t135.size ≤ 9223372036854775807 then (if 70 ≤ 281474976710656 then ((some (List.replicate 70 0 : List Int)).bind fun y136 => (if (a0 ++ t135).size + (strOfNums y136).size ≤ 9223372036854775807 then ((comp_Name.f k ((a0 ++ t135) ++ (strOfNums y136)) (a0.size : Int)).bind fun bt139 => (if a0.size + 2 ≤ 9223372036854775807 then ((wimplelaw5_pointer.f (a0.size : Int)).bind fun t142 => (if (a0 ++ (⟨#[1, 97]⟩ : ByteArray)).size + t142.size ≤ 9223372036854775807 then ((comp_Name.f k ((a0 ++ (⟨#[1, 97]⟩ : ByteArray)) ++ t142) (a0.size : Int)).bind fun bt143 => ((wimplelaw5_pointer.f (wrap64 ((a0.size : Int) + 2))).bind fun t146 => (if (a0 ++ (⟨#[1, 97]⟩ : ByteArray)).size + t146.size ≤ 9223372036854775807 then ((comp_Name.f k ((a0 ++ (⟨#[1, 97]⟩ : ByteArray)) ++ t146) (a0.size : Int)).bind fun bt147 => (if a0.size + 1 ≤ 9223372036854775807 then ((comp_Name.f k (a0 ++ (⟨#[192]⟩ : ByteArray)) (a0.size : Int)).bind fun bt150 => ((some (([(wrap64 (64 + (Go.bits .and .i64 a1 127))) % 256, 0] : List Int) : List Int)).bind fun y153 => (if a0.size + (strOfNums y153).size ≤ 9223372036854775807 then ((comp_Name.f k (a0 ++ (strOfNums y153)) (a0.size : Int)).bind fun bt156 => ((comp_Name.f k a0 (wrap64 ((-1) - (Go.bits .and .i64 a1 63)))).bind fun bt159 => ((comp_Name.f k a0 (a0.size : Int)).bind fun bt162 => ((wimplelaw0_Num.f t134).bind fun t165 => (if t165 = 500 then ((wimplelaw0_Num.f bt139.2.2).bind fun t166 => (if t166 = 500 then ((wimplelaw0_Num.f bt143.2.2).bind fun t167 => (if t167 = 500 then ((wimplelaw0_Num.f bt147.2.2).bind fun t168 => (if t168 = 500 then ((wimplelaw0_Num.f bt150.2.2).bind fun t169 => (if t169 = 500 then ((wimplelaw0_Num.f bt156.2.2).bind fun t170 => (if t170 = 500 then ((wimplelaw0_Num.f bt159.2.2).bind fun t171 => (if t171 = 500 then ((wimplelaw0_Num.f bt162.2.2).bind fun t172 => (some (t172 == 500))) else (none))) else (none))) else (none))) else (none))) else (none))) else (none))) else (none)))))) else (none)))) else (none))) else (none)))) else (none))) else (none))) else (none))) else (none)) else (none)) = some r := H
        have A10 := Aside0.mk A100
        clear A100
        by_cases c11 : a0.size + t135.size ≤ 9223372036854775807
        · rw [if_pos c11] at H
          have c11b0 := eq_true c11
          have c11b1 : decide (a0.size + t135.size ≤ 9223372036854775807) = true := decide_eq_true c11
          try have c11b2 : (9223372036854775807 < a0.size + t135.size) = False := eq_false (Nat.not_lt.2 c11)
          by_cases c12 : 70 ≤ 281474976710656
          · rw [if_pos c12] at H
            have c12b0 := eq_true c12
            have c12b1 : decide (70 ≤ 281474976710656) = true := decide_eq_true c12
            clear c12
            obtain ⟨y136, hy136⟩ : ∃ y_ : List Int, y_ = (List.replicate 70 0) := ⟨_, rfl⟩
            replace H : (if (a0 ++ t135).size + (strOfNums y136).size ≤ 9223372036854775807 then ((comp_Name.f k ((a0 ++ t135) ++ (strOfNums y136)) (a0.size : Int)).bind fun bt139 => (if a0.size + 2 ≤ 9223372036854775807 then ((wimplelaw5_pointer.f (a0.size : Int)).bind fun t142 => (if (a0 ++ (⟨#[1, 97]⟩ : ByteArray)).size + t142.size ≤ 9223372036854775807 then ((comp_Name.f k ((a0 ++ (⟨#[1, 97]⟩ : ByteArray)) ++ t142) (a0.size : Int)).bind fun bt143 => ((wimplelaw5_pointer.f (wrap64 ((a0.size : Int) + 2))).bind fun t146 => (if (a0 ++ (⟨#[1, 97]⟩ : ByteArray)).size + t146.size ≤ 9223372036854775807 then ((comp_Name.f k ((a0 ++ (⟨#[1, 97]⟩ : ByteArray)) ++ t146) (a0.size : Int)).bind fun bt147 => (if a0.size + 1 ≤ 9223372036854775807 then ((comp_Name.f k (a0 ++ (⟨#[192]⟩ : ByteArray)) (a0.size : Int)).bind fun bt150 => ((some (([(wrap64 (64 + (Go.bits .and .i64 a1 127))) % 256, 0] : List Int) : List Int)).bind fun y153 => (if a0.size + (strOfNums y153).size ≤ 9223372036854775807 then ((comp_Name.f k (a0 ++ (strOfNums y153)) (a0.size : Int)).bind fun bt156 => ((comp_Name.f k a0 (wrap64 ((-1) - (Go.bits .and .i64 a1 63)))).bind fun bt159 => ((comp_Name.f k a0 (a0.size : Int)).bind fun bt162 => ((wimplelaw0_Num.f t134).bind fun t165 => (if t165 = 500 then ((wimplelaw0_Num.f bt139.2.2).bind fun t166 => (if t166 = 500 then ((wimplelaw0_Num.f bt143.2.2).bind fun t167 => (if t167 = 500 then ((wimplelaw0_Num.f bt147.2.2).bind fun t168 => (if t168 = 500 then ((wimplelaw0_Num.f bt150.2.2).bind fun t169 => (if t169 = 500 then ((wimplelaw0_Num.f bt156.2.2).bind fun t170 => (if t170 = 500 then ((wimplelaw0_Num.f bt159.2.2).bind fun t171 => (if t171 = 500 then ((wimplelaw0_Num.f bt162.2.2).bind fun t172 => (some (t172 == 500))) else (none))) else (none))) else (none))) else (none))) else (none))) else (none))) else (none)))))) else (none)))) else (none))) else (none)))) else (none))) else (none))) else (none)) = some r := by first | (rw [hy136]; with_reducible exact H) | (have H2_ := (Option.bind_some _ _).symm.trans H; rw [hy136]; with_reducible exact H2_) | (have H2_ := (Option.bind_some _ _).symm.trans H; with_reducible exact H2_) | with_reducible exact H | (rw [hy136]; exact H) | exact H
            have Ny136 := Aside0.mk hy136
            clear hy136
            by_cases c13 : (a0 ++ t135).size + (strOfNums y136).size ≤ 9223372036854775807
            · rw [if_pos c13] at H
              have c13b0 := eq_true c13
              have c13b1 : decide ((a0 ++ t135).size + (strOfNums y136).size ≤ 9223372036854775807) = true := decide_eq_true c13
              try have c13b2 : (9223372036854775807 < (a0 ++ t135).size + (strOfNums y136).size) = False := eq_false (Nat.not_lt.2 c13)
              try (have c13b3 := c13; simp only [ByteArray.size_append] at c13b3; replace c13b3 := eq_false (Nat.not_lt.2 c13b3))
              replace H := Option.bind_eq_some_iff.mp H
              obtain ⟨⟨t139, t140, t141⟩, A140, H⟩ := H
              replace H : (if a0.size + 2 ≤ 9223372036854775807 then ((wimplelaw5_pointer.f (a0.size : Int)).bind fun t142 => (if (a0 ++ (⟨#[1, 97]⟩ : ByteArray)).size + t142.size ≤ 9223372036854775807 then ((comp_Name.f k ((a0 ++ (⟨#[1, 97]⟩ : ByteArray)) ++ t142) (a0.size : Int)).bind fun bt143 => ((wimplelaw5_pointer.f (wrap64 ((a0.size : Int) + 2))).bind fun t146 => (if (a0 ++ (⟨#[1, 97]⟩ : ByteArray)).size + t146.size ≤ 9223372036854775807 then ((comp_Name.f k ((a0 ++ (⟨#[1, 97]⟩ : ByteArray)) ++ t146) (a0.size : Int)).bind fun bt147 => (if a0.size + 1 ≤ 9223372036854775807 then ((comp_Name.f k (a0 ++ (⟨#[192]⟩ : ByteArray)) (a0.size : Int)).bind fun bt150 => ((some (([(wrap64 (64 + (Go.bits .and .i64 a1 127))) % 256, 0] : List Int) : List Int)).bind fun y153 => (if a0.size + (strOfNums y153).size ≤ 9223372036854775807 then ((comp_Name.f k (a0 ++ (strOfNums y153)) (a0.size : Int)).bind fun bt156 => ((comp_Name.f k a0 (wrap64 ((-1) - (Go.bits .and .i64 a1 63)))).bind fun bt159 => ((comp_Name.f k a0 (a0.size : Int)).bind fun bt162 => ((wimplelaw0_Num.f t134).bind fun t165 => (if t165 = 500 then ((wimplelaw0_Num.f t141).bind fun t166 => (if t166 = 500 then ((wimplelaw0_Num.f bt143.2.2).bind fun t167 => (if t167 = 500 then ((wimplelaw0_Num.f bt147.2.2).bind fun t168 => (if t168 = 500 then ((wimplelaw0_Num.f bt150.2.2).bind fun t169 => (if t169 = 500 then ((wimplelaw0_Num.f bt156.2.2).bind fun t170 => (if t170 = 500 then ((wimplelaw0_Num.f bt159.2.2).bind fun t171 => (if t171 = 500 then ((wimplelaw0_Num.f bt162.2.2).bind fun t172 => (some (t172 == 500))) else (none))) else (none))) else (none))) else (none))) else (none))) else (none))) else (none)))))) else (none)))) else (none))) else (none)))) else (none))) else (none)) = some r := H
              have A14 := Aside0.mk A140
              clear A140
              by_cases c15 : a0.size + 2 ≤ 9223372036854775807
              · rw [if_pos c15] at H
                have c15b0 := eq_true c15
                have c15b1 : decide (a0.size + 2 ≤ 9223372036854775807) = true := decide_eq_true c15
                try have c15b2 : (9223372036854775807 < a0.size + 2) = False := eq_false (Nat.not_lt.2 c15)
                replace H := Option.bind_eq_some_iff.mp H
                obtain ⟨t142, A160, H⟩ := H
                replace H : (if (a0 ++ (⟨#[1, 97]⟩ : ByteArray)).size + t142.size ≤ 9223372036854775807 then ((comp_Name.f k ((a0 ++ (⟨#[1, 97]⟩ : ByteArray)) ++ t142) (a0.size : Int)).bind fun bt143 => ((wimplelaw5_pointer.f (wrap64 ((a0.size : Int) + 2))).bind fun t146 => (if (a0 ++ (⟨#[1, 97]⟩ : ByteArray)).size + t146.size ≤ 9223372036854775807 then ((comp_Name.f k ((a0 ++ (⟨#[1, 97]⟩ : ByteArray)) ++ t146) (a0.size : Int)).bind fun bt147 => (if a0.size + 1 ≤ 9223372036854775807 then ((comp_Name.f k (a0 ++ (⟨#[192]⟩ : ByteArray)) (a0.size : Int)).bind fun bt150 => ((some (([(wrap64 (64 + (Go.bits .and .i64 a1 127))) % 256, 0] : List Int) : List Int)).bind fun y153 => (if a0.size + (strOfNums y153).size ≤ 9223372036854775807 then ((comp_Name.f k (a0 ++ (strOfNums y153)) (a0.size : Int)).bind fun bt156 => ((comp_Name.f k a0 (wrap64 ((-1) - (Go.bits .and .i64 a1 63)))).bind fun bt159 => ((comp_Name.f k a0 (a0.size : Int)).bind fun bt162 => ((wimplelaw0_Num.f t134).bind fun t165 => (if t165 = 500 then ((wimplelaw0_Num.f t141).bind fun t166 => (if t166 = 500 then ((wimplelaw0_Num.f bt143.2.2).bind fun t167 => (if t167 = 500 then ((wimplelaw0_Num.f bt147.2.2).bind fun t168 => (if t168 = 500 then ((wimplelaw0_Num.f bt150.2.2).bind fun t169 => (if t169 = 500 then ((wimplelaw0_Num.f bt156.2.2).bind fun t170 => (if t170 = 500 then ((wimplelaw0_Num.f bt159.2.2).bind fun t171 => (if t171 = 500 then ((wimplelaw0_Num.f bt162.2.2).bind fun t172 => (some (t172 == 500))) else (none))) else (none))) else (none))) else (none))) else (none))) else (none))) else (none)))))) else (none)))) else (none))) else (none)))) else (none)) = some r := H
                have A16 := Aside0.mk A160
                clear A160
                by_cases c17 : (a0 ++ (⟨#[1, 97]⟩ : ByteArray)).size + t142.size ≤ 9223372036854775807
                · rw [if_pos c17] at H
                  have c17b0 := eq_true c17
                  have c17b1 : decide ((a0 ++ (⟨#[1, 97]⟩ : ByteArray)).size + t142.size ≤ 9223372036854775807) = true := decide_eq_true c17
                  try have c17b2 : (9223372036854775807 < (a0 ++ (⟨#[1, 97]⟩ : ByteArray)).size + t142.size) = False := eq_false (Nat.not_lt.2 c17)
                  try (have c17b4 : (9223372036854775807 < a0.size + 2 + t142.size) = False := eq_false (by have h_ := c17; have e_ : (⟨#[1, 97]⟩ : ByteArray).size = 2 := rfl; simp only [ByteArray.size_append] at h_; omega))
                  try (have c17b3 := c17; simp only [ByteArray.size_append] at c17b3; replace c17b3 := eq_false (Nat.not_lt.2 c17b3))
                  replace H := Option.bind_eq_some_iff.mp H
                  obtain ⟨⟨t143, t144, t145⟩, A180, H⟩ := H
                  replace H : ((wimplelaw5_pointer.f (wrap64 ((a0.size : Int) + 2))).bind fun t146 => (if (a0 ++ (⟨#[1, 97]⟩ : ByteArray)).size + t146.size ≤ 9223372036854775807 then ((comp_Name.f k ((a0 ++ (⟨#[1, 97]⟩ : ByteArray)) ++ t146) (a0.size : Int)).bind fun bt147 => (if a0.size + 1 ≤ 9223372036854775807 then ((comp_Name.f k (a0 ++ (⟨#[192]⟩ : ByteArray)) (a0.size : Int)).bind fun bt150 => ((some (([(wrap64 (64 + (Go.bits .and .i64 a1 127))) % 256, 0] : List Int) : List Int)).bind fun y153 => (if a0.size + (strOfNums y153).size ≤ 9223372036854775807 then ((comp_Name.f k (a0 ++ (strOfNums y153)) (a0.size : Int)).bind fun bt156 => ((comp_Name.f k a0 (wrap64 ((-1) - (Go.bits .and .i64 a1 63)))).bind fun bt159 => ((comp_Name.f k a0 (a0.size : Int)).bind fun bt162 => ((wimplelaw0_Num.f t134).bind fun t165 => (if t165 = 500 then ((wimplelaw0_Num.f t141).bind fun t166 => (if t166 = 500 then ((wimplelaw0_Num.f t145).bind fun t167 => (if t167 = 500 then ((wimplelaw0_Num.f bt147.2.2).bind fun t168 => (if t168 = 500 then ((wimplelaw0_Num.f bt150.2.2).bind fun t169 => (if t169 = 500 then ((wimplelaw0_Num.f bt156.2.2).bind fun t170 => (if t170 = 500 then ((wimplelaw0_Num.f bt159.2.2).bind fun t171 => (if t171 = 500 then ((wimplelaw0_Num.f bt162.2.2).bind fun t172 => (some (t172 == 500))) else (none))) else (none))) else (none))) else (none))) else (none))) else (none))) else (none)))))) else (none)))) else (none))) else (none))) = some r := H
                  have A18 := Aside0.mk A180
                  clear A180
                  replace H := Option.bind_eq_some_iff.mp H
                  obtain ⟨t146, A190, H⟩ := H
                  replace H : (if (a0 ++ (⟨#[1, 97]⟩ : ByteArray)).size + t146.size ≤ 9223372036854775807 then ((comp_Name.f k ((a0 ++ (⟨#[1, 97]⟩ : ByteArray)) ++ t146) (a0.size : Int)).bind fun bt147 => (if a0.size + 1 ≤ 9223372036854775807 then ((comp_Name.f k (a0 ++ (⟨#[192]⟩ : ByteArray)) (a0.size : Int)).bind fun bt150 => ((some (([(wrap64 (64 + (Go.bits .and .i64 a1 127))) % 256, 0] : List Int) : List Int)).bind fun y153 => (if a0.size + (strOfNums y153).size ≤ 9223372036854775807 then ((comp_Name.f k (a0 ++ (strOfNums y153)) (a0.size : Int)).bind fun bt156 => ((comp_Name.f k a0 (wrap64 ((-1) - (Go.bits .and .i64 a1 63)))).bind fun bt159 => ((comp_Name.f k a0 (a0.size : Int)).bind fun bt162 => ((wimplelaw0_Num.f t134).bind fun t165 => (if t165 = 500 then ((wimplelaw0_Num.f t141).bind fun t166 => (if t166 = 500 then ((wimplelaw0_Num.f t145).bind fun t167 => (if t167 = 500 then ((wimplelaw0_Num.f bt147.2.2).bind fun t168 => (if t168 = 500 then ((wimplelaw0_Num.f bt150.2.2).bind fun t169 => (if t169 = 500 then ((wimplelaw0_Num.f bt156.2.2).bind fun t170 => (if t170 = 500 then ((wimplelaw0_Num.f bt159.2.2).bind fun t171 => (if t171 = 500 then ((wimplelaw0_Num.f bt162.2.2).bind fun t172 => (some (t172 == 500))) else (none))) else (none))) else (none))) else (none))) else (none))) else (none))) else (none)))))) else (none)))) else (none))) else (none)) = some r := H
                  have A19 := Aside0.mk A190
                  clear A190
                  by_cases c20 : (a0 ++ (⟨#[1, 97]⟩ : ByteArray)).size + t146.size ≤ 9223372036854775807
                  · rw [if_pos c20] at H
                    have c20b0 := eq_true c20
                    have c20b1 : decide ((a0 ++ (⟨#[1, 97]⟩ : ByteArray)).size + t146.size ≤ 9223372036854775807) = true := decide_eq_true c20
                    try have c20b2 : (9223372036854775807 < (a0 ++ (⟨#[1, 97]⟩ : ByteArray)).size + t146.size) = False := eq_false (Nat.not_lt.2 c20)
                    try (have c20b4 : (9223372036854775807 < a0.size + 2 + t146.size) = False := eq_false (by have h_ := c20; have e_ : (⟨#[1, 97]⟩ : ByteArray).size = 2 := rfl; simp only [ByteArray.size_append] at h_; omega))
                    try (have c20b3 := c20; simp only [ByteArray.size_append] at c20b3; replace c20b3 := eq_false (Nat.not_lt.2 c20b3))
                    replace H := Option.bind_eq_some_iff.mp H
                    obtain ⟨⟨t147, t148, t149⟩, A210, H⟩ := H
                    replace H : (if a0.size + 1 ≤ 9223372036854775807 then ((comp_Name.f k (a0 ++ (⟨#[192]⟩ : ByteArray)) (a0.size : Int)).bind fun bt150 => ((some (([(wrap64 (64 + (Go.bits .and .i64 a1 127))) % 256, 0] : List Int) : List Int)).bind fun y153 => (if a0.size + (strOfNums y153).size ≤ 9223372036854775807 then ((comp_Name.f k (a0 ++ (strOfNums y153)) (a0.size : Int)).bind fun bt156 => ((comp_Name.f k a0 (wrap64 ((-1) - (Go.bits .and .i64 a1 63)))).bind fun bt159 => ((comp_Name.f k a0 (a0.size : Int)).bind fun bt162 => ((wimplelaw0_Num.f t134).bind fun t165 => (if t165 = 500 then ((wimplelaw0_Num.f t141).bind fun t166 => (if t166 = 500 then ((wimplelaw0_Num.f t145).bind fun t167 => (if t167 = 500 then ((wimplelaw0_Num.f t149).bind fun t168 => (if t168 = 500 then ((wimplelaw0_Num.f bt150.2.2).bind fun t169 => (if t169 = 500 then ((wimplelaw0_Num.f bt156.2.2).bind fun t170 => (if t170 = 500 then ((wimplelaw0_Num.f bt159.2.2).bind fun t171 => (if t171 = 500 then ((wimplelaw0_Num.f bt162.2.2).bind fun t172 => (some (t172 == 500))) else (none))) else (none))) else (none))) else (none))) else (none))) else (none))) else (none)))))) else (none)))) else (none)) = some r := H
                    have A21 := Aside0.mk A210
                    clear A210
                    by_cases c22 : a0.size + 1 ≤ 9223372036854775807
                    · rw [if_pos c22] at H
                      have c22b0 := eq_true c22
                      have c22b1 : decide (a0.size + 1 ≤ 9223372036854775807) = true := decide_eq_true c22
                      try have c22b2 : (9223372036854775807 < a0.size + 1) = False := eq_false (Nat.not_lt.2 c22)
                      replace H := Option.bind_eq_some_iff.mp H
                      obtain ⟨⟨t150, t151, t152⟩, A230, H⟩ := H
                      replace H : ((some (([(wrap64 (64 + (Go.bits .and .i64 a1 127))) % 256, 0] : List Int) : List Int)).bind fun y153 => (if a0.size + (strOfNums y153).size ≤ 9223372036854775807 then ((comp_Name.f k (a0 ++ (strOfNums y153)) (a0.size : Int)).bind fun bt156 => ((comp_Name.f k a0 (wrap64 ((-1) - (Go.bits .and .i64 a1 63)))).bind fun bt159 => ((comp_Name.f k a0 (a0.size : Int)).bind fun bt162 => ((wimplelaw0_Num.f t134).bind fun t165 => (if t165 = 500 then ((wimplelaw0_Num.f t141).bind fun t166 => (if t166 = 500 then ((wimplelaw0_Num.f t145).bind fun t167 => (if t167 = 500 then ((wimplelaw0_Num.f t149).bind fun t168 => (if t168 = 500 then ((wimplelaw0_Num.f t152).bind fun t169 => (if t169 = 500 then ((wimplelaw0_Num.f bt156.2.2).bind fun t170 => (if t170 = 500 then ((wimplelaw0_Num.f bt159.2.2).bind fun t171 => (if t171 = 500 then ((wimplelaw0_Num.f bt162.2.2).bind fun t172 => (some (t172 == 500))) else (none))) else (none))) else (none))) else (none))) else (none))) else (none))) else (none)))))) else (none))) = some r := H
                      have A23 := Aside0.mk A230
                      clear A230
                      obtain ⟨y153, hy153⟩ : ∃ y_ : List Int, y_ = (([(wrap64 (64 + (Go.bits .and .i64 a1 127))) % 256, 0] : List Int)) := ⟨_, rfl⟩
                      replace H : (if a0.size + (strOfNums y153).size ≤ 9223372036854775807 then ((comp_Name.f k (a0 ++ (strOfNums y153)) (a0.size : Int)).bind fun bt156 => ((comp_Name.f k a0 (wrap64 ((-1) - (Go.bits .and .i64 a1 63)))).bind fun bt159 => ((comp_Name.f k a0 (a0.size : Int)).bind fun bt162 => ((wimplelaw0_Num.f t134).bind fun t165 => (if t165 = 500 then ((wimplelaw0_Num.f t141).bind fun t166 => (if t166 = 500 then ((wimplelaw0_Num.f t145).bind fun t167 => (if t167 = 500 then ((wimplelaw0_Num.f t149).bind fun t168 => (if t168 = 500 then ((wimplelaw0_Num.f t152).bind fun t169 => (if t169 = 500 then ((wimplelaw0_Num.f bt156.2.2).bind fun t170 => (if t170 = 500 then ((wimplelaw0_Num.f bt159.2.2).bind fun t171 => (if t171 = 500 then ((wimplelaw0_Num.f bt162.2.2).bind fun t172 => (some (t172 == 500))) else (none))) else (none))) else (none))) else (none))) else (none))) else (none))) else (none)))))) else (none)) = some r := by first | (rw [hy153]; with_reducible exact H) | (have H2_ := (Option.bind_some _ _).symm.trans H; rw [hy153]; with_reducible exact H2_) | (have H2_ := (Option.bind_some _ _).symm.trans H; with_reducible exact H2_) | with_reducible exact H | (rw [hy153]; exact H) | exact H
                      have Ny153 := Aside0.mk hy153
                      clear hy153
                      by_cases c24 : a0.size + (strOfNums y153).size ≤ 9223372036854775807
                      · rw [if_pos c24] at H
                        have c24b0 := eq_true c24
                        have c24b1 : decide (a0.size + (strOfNums y153).size ≤ 9223372036854775807) = true := decide_eq_true c24
                        try have c24b2 : (9223372036854775807 < a0.size + (strOfNums y153).size) = False := eq_false (Nat.not_lt.2 c24)
                        replace H := Option.bind_eq_some_iff.mp H
                        obtain ⟨⟨t156, t157, t158⟩, A250, H⟩ := H
                        replace H : ((comp_Name.f k a0 (wrap64 ((-1) - (Go.bits .and .i64 a1 63)))).bind fun bt159 => ((comp_Name.f k a0 (a0.size : Int)).bind fun bt162 => ((wimplelaw0_Num.f t134).bind fun t165 => (if t165 = 500 then ((wimplelaw0_Num.f t141).bind fun t166 => (if t166 = 500 then ((wimplelaw0_Num.f t145).bind fun t167 => (if t167 = 500 then ((wimplelaw0_Num.f t149).bind fun t168 => (if t168 = 500 then ((wimplelaw0_Num.f t152).bind fun t169 => (if t169 = 500 then ((wimplelaw0_Num.f t158).bind fun t170 => (if t170 = 500 then ((wimplelaw0_Num.f bt159.2.2).bind fun t171 => (if t171 = 500 then ((wimplelaw0_Num.f bt162.2.2).bind fun t172 => (some (t172 == 500))) else (none))) else (none))) else (none))) else (none))) else (none))) else (none))) else (none))))) = some r := H
                        have A25 := Aside0.mk A250
                        clear A250
                        replace H := Option.bind_eq_some_iff.mp H
                        obtain ⟨⟨t159, t160, t161⟩, A260, H⟩ := H
                        replace H : ((comp_Name.f k a0 (a0.size : Int)).bind fun bt162 => ((wimplelaw0_Num.f t134).bind fun t165 => (if t165 = 500 then ((wimplelaw0_Num.f t141).bind fun t166 => (if t166 = 500 then ((wimplelaw0_Num.f t145).bind fun t167 => (if t167 = 500 then ((wimplelaw0_Num.f t149).bind fun t168 => (if t168 = 500 then ((wimplelaw0_Num.f t152).bind fun t169 => (if t169 = 500 then ((wimplelaw0_Num.f t158).bind fun t170 => (if t170 = 500 then ((wimplelaw0_Num.f t161).bind fun t171 => (if t171 = 500 then ((wimplelaw0_Num.f bt162.2.2).bind fun t172 => (some (t172 == 500))) else (none))) else (none))) else (none))) else (none))) else (none))) else (none))) else (none)))) = some r := H
                        have A26 := Aside0.mk A260
                        clear A260
                        replace H := Option.bind_eq_some_iff.mp H
                        obtain ⟨⟨t162, t163, t164⟩, A270, H⟩ := H
                        replace H : ((wimplelaw0_Num.f t134).bind fun t165 => (if t165 = 500 then ((wimplelaw0_Num.f t141).bind fun t166 => (if t166 = 500 then ((wimplelaw0_Num.f t145).bind fun t167 => (if t167 = 500 then ((wimplelaw0_Num.f t149).bind fun t168 => (if t168 = 500 then ((wimplelaw0_Num.f t152).bind fun t169 => (if t169 = 500 then ((wimplelaw0_Num.f t158).bind fun t170 => (if t170 = 500 then ((wimplelaw0_Num.f t161).bind fun t171 => (if t171 = 500 then ((wimplelaw0_Num.f t164).bind fun t172 => (some (t172 == 500))) else (none))) else (none))) else (none))) else (none))) else (none))) else (none))) else (none))) = some r := H
                        have A27 := Aside0.mk A270
                        clear A270
                        replace H := Option.bind_eq_some_iff.mp H
                        obtain ⟨t165, A280, H⟩ := H
                        replace H : (if t165 = 500 then ((wimplelaw0_Num.f t141).bind fun t166 => (if t166 = 500 then ((wimplelaw0_Num.f t145).bind fun t167 => (if t167 = 500 then ((wimplelaw0_Num.f t149).bind fun t168 => (if t168 = 500 then ((wimplelaw0_Num.f t152).bind fun t169 => (if t169 = 500 then ((wimplelaw0_Num.f t158).bind fun t170 => (if t170 = 500 then ((wimplelaw0_Num.f t161).bind fun t171 => (if t171 = 500 then ((wimplelaw0_Num.f t164).bind fun t172 => (some (t172 == 500))) else (none))) else (none))) else (none))) else (none))) else (none))) else (none))) else (none)) = some r := H
                        have A28 := Aside0.mk A280
                        clear A280
                        by_cases c29 : t165 = 500
                        · rw [if_pos c29] at H
                          have c29b0 : (t165 == 500) = true := beq_iff_eq.mpr c29
                          have c29b1 : (t165 != 500) = false := bne_eq_false_iff_eq.mpr c29
                          clear c29
                          replace H := Option.bind_eq_some_iff.mp H
                          obtain ⟨t166, A300, H⟩ := H
                          replace H : (if t166 = 500 then ((wimplelaw0_Num.f t145).bind fun t167 => (if t167 = 500 then ((wimplelaw0_Num.f t149).bind fun t168 => (if t168 = 500 then ((wimplelaw0_Num.f t152).bind fun t169 => (if t169 = 500 then ((wimplelaw0_Num.f t158).bind fun t170 => (if t170 = 500 then ((wimplelaw0_Num.f t161).bind fun t171 => (if t171 = 500 then ((wimplelaw0_Num.f t164).bind fun t172 => (some (t172 == 500))) else (none))) else (none))) else (none))) else (none))) else (none))) else (none)) = some r := H
                          have A30 := Aside0.mk A300
                          clear A300
                          by_cases c31 : t166 = 500
                          · rw [if_pos c31] at H
                            have c31b0 : (t166 == 500) = true := beq_iff_eq.mpr c31
                            have c31b1 : (t166 != 500) = false := bne_eq_false_iff_eq.mpr c31
                            clear c31
                            replace H := Option.bind_eq_some_iff.mp H
                            obtain ⟨t167, A320, H⟩ := H
                            replace H : (if t167 = 500 then ((wimplelaw0_Num.f t149).bind fun t168 => (if t168 = 500 then ((wimplelaw0_Num.f t152).bind fun t169 => (if t169 = 500 then ((wimplelaw0_Num.f t158).bind fun t170 => (if t170 = 500 then ((wimplelaw0_Num.f t161).bind fun t171 => (if t171 = 500 then ((wimplelaw0_Num.f t164).bind fun t172 => (some (t172 == 500))) else (none))) else (none))) else (none))) else (none))) else (none)) = some r := H
                            have A32 := Aside0.mk A320
                            clear A320
                            by_cases c33 : t167 = 500
                            · rw [if_pos c33] at H
                              have c33b0 : (t167 == 500) = true := beq_iff_eq.mpr c33
                              have c33b1 : (t167 != 500) = false := bne_eq_false_iff_eq.mpr c33
                              clear c33
                              replace H := Option.bind_eq_some_iff.mp H
                              obtain ⟨t168, A340, H⟩ := H
                              replace H : (if t168 = 500 then ((wimplelaw0_Num.f t152).bind fun t169 => (if t169 = 500 then ((wimplelaw0_Num.f t158).bind fun t170 => (if t170 = 500 then ((wimplelaw0_Num.f t161).bind fun t171 => (if t171 = 500 then ((wimplelaw0_Num.f t164).bind fun t172 => (some (t172 == 500))) else (none))) else (none))) else (none))) else (none)) = some r := H
                              have A34 := Aside0.mk A340
                              clear A340
                              by_cases c35 : t168 = 500
                              · rw [if_pos c35] at H
                                have c35b0 : (t168 == 500) = true := beq_iff_eq.mpr c35
                                have c35b1 : (t168 != 500) = false := bne_eq_false_iff_eq.mpr c35
                                clear c35
                                replace H := Option.bind_eq_some_iff.mp H
                                obtain ⟨t169, A360, H⟩ := H
                                replace H : (if t169 = 500 then ((wimplelaw0_Num.f t158).bind fun t170 => (if t170 = 500 then ((wimplelaw0_Num.f t161).bind fun t171 => (if t171 = 500 then ((wimplelaw0_Num.f t164).bind fun t172 => (some (t172 == 500))) else (none))) else (none))) else (none)) = some r := H
                                have A36 := Aside0.mk A360
                                clear A360
                                by_cases c37 : t169 = 500
                                · rw [if_pos c37] at H
                                  have c37b0 : (t169 == 500) = true := beq_iff_eq.mpr c37
                                  have c37b1 : (t169 != 500) = false := bne_eq_false_iff_eq.mpr c37
                                  clear c37
                                  replace H := Option.bind_eq_some_iff.mp H
                                  obtain ⟨t170, A380, H⟩ := H
                                  replace H : (if t170 = 500 then ((wimplelaw0_Num.f t161).bind fun t171 => (if t171 = 500 then ((wimplelaw0_Num.f t164).bind fun t172 => (some (t172 == 500))) else (none))) else (none)) = some r := H
                                  have A38 := Aside0.mk A380
                                  clear A380
                                  by_cases c39 : t170 = 500
                                  · rw [if_pos c39] at H
                                    have c39b0 : (t170 == 500) = true := beq_iff_eq.mpr c39
                                    have c39b1 : (t170 != 500) = false := bne_eq_false_iff_eq.mpr c39
                                    clear c39
                                    replace H := Option.bind_eq_some_iff.mp H
                                    obtain ⟨t171, A400, H⟩ := H
                                    replace H : (if t171 = 500 then ((wimplelaw0_Num.f t164).bind fun t172 => (some (t172 == 500))) else (none)) = some r := H
                                    have A40 := Aside0.mk A400
                                    clear A400
                                    by_cases c41 : t171 = 500
                                    · rw [if_pos c41] at H
                                      have c41b0 : (t171 == 500) = true := beq_iff_eq.mpr c41
                                      have c41b1 : (t171 != 500) = false := bne_eq_false_iff_eq.mpr c41
                                      clear c41
                                      replace H := Option.bind_eq_some_iff.mp H
                                      obtain ⟨t172, A420, H⟩ := H
                                      replace H : (some (t172 == 500)) = some r := H
                                      have A42 := Aside0.mk A420
                                      clear A420
                                      obtain rfl := Option.some.inj H
                                      go_enter Try.func5, Try.ntmps5
                                      try go_wp2_with (first | ((with_reducible refine gate_dst (N := 32) rfl ?_); (with_reducible refine gate_callee (f := 20) rfl ?_); refine goesL_ (some 32) rfl rfl Try.func20 (by kernel_rfl) rfl #[] rfl (by (try simp only [List.map_toArray, List.map_cons, List.map_nil]); first | done | rfl | (simp only [List.length_drop, List.length_take]; rfl)) ?_; (with_reducible refine (wimplelaw5_awake.calls  true _ A3.out).mono ?_); rintro e w43 ⟨rfl, hb⟩; refine ⟨_, rfl, ?_⟩; have n0_ := Aside0.mk (below_step (by repeat (first | (with_reducible first | exact HB.out | apply below_alloc | apply pw_below_drewN | apply below_drew1) | exact HB.out)) hb); clear HB; have HB := n0_; clear n0_; (try clear hb); (try clear hb2); (try clear hk); (try clear hi)) | ((with_reducible refine gate_dst (N := 40) rfl ?_); (with_reducible refine gate_callee (f := 23) rfl ?_); refine goesL_ (some 40) rfl rfl Try.func23 (by kernel_rfl) rfl #[.int .i64 (a0.size : Int)] rfl (by (try simp only [List.map_toArray, List.map_cons, List.map_nil]); first | done | rfl | (simp only [List.length_drop, List.length_take]; rfl)) ?_; (with_reducible refine (wimplelaw5_pointer.calls (a0.size : Int) t131 _ A7.out).mono ?_); rintro e w44 ⟨rfl, hb⟩; refine ⟨_, rfl, ?_⟩; have n0_ := Aside0.mk (below_step (by repeat (first | (with_reducible first | exact HB.out | apply below_alloc | apply pw_below_drewN | apply below_drew1) | exact HB.out)) hb); clear HB; have HB := n0_; clear n0_; (try clear hb); (try clear hb2); (try clear hk); (try clear hi)) | ((with_reducible refine gate_dst (N := 46) rfl ?_); (with_reducible refine gate_callee (f := 22) rfl ?_); refine goesL_ (some 46) rfl rfl Try.func22 (by kernel_rfl) rfl #[.string (a0 ++ t131), .int .i64 (a0.size : Int)] rfl (by (try simp only [List.map_toArray, List.map_cons, List.map_nil]); first | done | rfl | (simp only [List.length_drop, List.length_take]; rfl)) ?_; (with_reducible refine (comp_Name.calls k (a0 ++ t131) (a0.size : Int) t132 t133 t134 _ A9.out).mono ?_); rintro e w45 ⟨rfl, hb⟩; refine ⟨_, rfl, ?_⟩; have n0_ := Aside0.mk (below_step (by repeat (first | (with_reducible first | exact HB.out | apply below_alloc | apply pw_below_drewN | apply below_drew1) | exact HB.out)) hb); clear HB; have HB := n0_; clear n0_; (try clear hb); (try clear hb2); (try clear hk); (try clear hi)))
                                      have n0_ := Aside0.mk (below_drew1 HB.out)
                                      clear HB
                                      have HB := n0_
                                      clear n0_
                                      refine start_ (n := 20) (S := fun w' => True) (ds := []) #[false, false, false, false, false, false, false, false, false, false, false, false, false, false, false, false, false, false, false, false] (by kernel_rfl) rfl rfl trivial (fun hHeld => ?_); refine with_tabW wimplelaw5_CompLoops.tab8 wimplelaw5_CompLoops.bits8 (fun HT_ HW_ => ?_)
                                      generalize w45.drew = w46 at HB hHeld ⊢
                                      refine pure_ (i := 0) (N := some 51) (v := ?_) (a' := ?_) #[true, false, false, false, false, false, false, false, false, false, false, false, false, false, false, false, false, false, false, false] rfl rfl (any_of HT_.out (by kernel_rfl)) (fun _ _ _ h => h) (Or.inl ⟨by rfl, ?_⟩) ?_ ?_
                                      rotate_left
                                      · intro w'
                                        go_simp
                                        with_reducible rfl
                                      rotate_left
                                      · simp only [Act.put, List.setIfInBounds_toArray, List.set_cons_zero, List.set_cons_succ, i64_w, i32_w]
                                        rfl
                                      refine pure_ (i := 1) (N := some 52) (v := ?_) (a' := ?_) #[true, true, false, false, false, false, false, false, false, false, false, false, false, false, false, false, false, false, false, false] rfl rfl (any_of HT_.out (by kernel_rfl)) (fun _ _ _ h => h) (Or.inl ⟨by rfl, ?_⟩) ?_ ?_
                                      rotate_left
                                      · intro w'
                                        go_simp
                                        with_reducible rfl
                                      rotate_left
                                      · simp only [Act.put, List.setIfInBounds_toArray, List.set_cons_zero, List.set_cons_succ, i64_w, i32_w]
                                        rfl
                                      refine pure_ (i := 2) (N := some 53) (v := ?_) (a' := ?_) #[true, true, true, false, false, false, false, false, false, false, false, false, false, false, false, false, false, false, false, false] rfl rfl (any_of HT_.out (by kernel_rfl)) (fun _ _ _ h => h) (Or.inl ⟨by rfl, ?_⟩) ?_ ?_
                                      rotate_left
                                      · intro w'
                                        go_simp
                                        with_reducible rfl
                                      rotate_left
                                      · simp only [Act.put, List.setIfInBounds_toArray, List.set_cons_zero, List.set_cons_succ, i64_w, i32_w]
                                        rfl
                                      refine pure_ (i := 3) (N := some 54) (v := ?_) (a' := ?_) #[true, true, true, true, false, false, false, false, false, false, false, false, false, false, false, false, false, false, false, false] rfl rfl (any_of HT_.out (by kernel_rfl)) (fun _ _ _ h => h) (Or.inl ⟨by rfl, ?_⟩) ?_ ?_
                                      rotate_left
                                      · intro w'
                                        go_simp
                                        with_reducible rfl
                                      rotate_left
                                      · simp only [Act.put, List.setIfInBounds_toArray, List.set_cons_zero, List.set_cons_succ, i64_w, i32_w]
                                        rfl
                                      refine pure_ (i := 4) (N := some 55) (v := ?_) (a' := ?_) #[true, true, true, true, true, false, false, false, false, false, false, false, false, false, false, false, false, false, false, false] rfl rfl (any_of HT_.out (by kernel_rfl)) (fun _ _ _ h => h) (Or.inl ⟨by rfl, ?_⟩) ?_ ?_
                                      rotate_left
                                      · intro w'
                                        go_simp
                                        with_reducible rfl
                                      rotate_left
                                      · simp only [Act.put, List.setIfInBounds_toArray, List.set_cons_zero, List.set_cons_succ, i64_w, i32_w]
                                        rfl
                                      refine pure_ (i := 5) (N := some 56) (v := ?_) (a' := ?_) #[true, true, true, true, true, true, false, false, false, false, false, false, false, false, false, false, false, false, false, false] rfl rfl (any_of HT_.out (by kernel_rfl)) (fun _ _ _ h => h) (Or.inl ⟨by rfl, ?_⟩) ?_ ?_
                                      rotate_left
                                      · intro w'
                                        go_simp
                                        with_reducible rfl
                                      rotate_left
                                      · simp only [Act.put, List.setIfInBounds_toArray, List.set_cons_zero, List.set_cons_succ, i64_w, i32_w]
                                        rfl
                                      refine pure_ (i := 11) (N := some 62) (v := ?_) (a' := ?_) #[true, true, true, true, true, true, false, false, false, false, false, true, false, false, false, false, false, false, false, false] rfl rfl (any_of HT_.out (by kernel_rfl)) (fun _ _ _ h => h) (Or.inl ⟨by rfl, ?_⟩) ?_ ?_
                                      rotate_left
                                      · intro w'
                                        go_simp
                                        with_reducible rfl
                                      rotate_left
                                      · simp only [Act.put, List.setIfInBounds_toArray, List.set_cons_zero, List.set_cons_succ, i64_w, i32_w]
                                        rfl
                                      refine join_ (σ := Value) 9 #[true, true, true, true, true, true, true, true, true, true, false, true, false, false, false, false, false, false, false, false] (fun s_ => [(57, .string t135), (59, s_), (60, .string (strOfNums y136)), (58, .string (a0 ++ t135))]) (fun s_ w' => (Kd.R (Kd.int .u8) 5 w' w.heap.size (fun _ => True) s_ y136) ∧ (Below w.heap.size w w')) ?_ ?_
                                      rotate_left
                                      · intro hCont
                                        refine two_ (i := 6) (j := 8) (Ni := some 57) (Nj := some 59) #[true, true, true, true, true, true, true, false, false, false, false, true, false, false, false, false, false, false, false, false] #[true, true, true, true, true, true, false, false, true, false, false, true, false, false, false, false, false, false, false, false] rfl rfl rfl rfl (two_of HT_.out (by kernel_rfl)) (by decide) (by decide) (fun K hK => ?_) (fun K hK => ?_)
                                        · skip
                                          refine goes_ Try.func23 (by kernel_rfl) rfl #[.int .i64 (wrap64 ((wrap64 ((a0.size : Int) + 2)) + (Go.bits .and .i64 a1 63)))] (by rfl) rfl rfl (by (try simp only [List.map_toArray, List.map_cons, List.map_nil]); first | done | rfl | (simp only [List.length_drop, List.length_take]; rfl)) ?_
                                          with_reducible refine (wimplelaw5_pointer.calls (wrap64 ((wrap64 ((a0.size : Int) + 2)) + (Go.bits .and .i64 a1 63))) t135 _ A10.out).mono ?_
                                          rintro e w47 ⟨rfl, hb⟩
                                          refine ⟨_, rfl, ?_⟩
                                          have n0_ := Aside0.mk (below_step (by repeat (first | (with_reducible first | exact HB.out | apply below_alloc | apply pw_below_drewN | apply below_drew1) | exact HB.out)) hb)
                                          clear HB
                                          have HB := n0_
                                          clear n0_
                                          (try clear hb)
                                          (try clear hb2)
                                          (try clear hk)
                                          (try clear hi)
                                          refine hK.out _ _ trivial (fun hHeld => ?_)
                                          clear hK K
                                          refine norm_ (a' := ?_) ?_ ?_
                                          rotate_left
                                          · show Act.put _ (some 57) _ = _
                                            simp only [Act.put, List.setIfInBounds_toArray, List.set_cons_zero, List.set_cons_succ, i64_w, i32_w]
                                            rfl
                                          refine pure_ (i := 7) (N := some 58) (v := ?_) (a' := ?_) #[true, true, true, true, true, true, true, true, false, false, false, true, false, false, false, false, false, false, false, false] rfl rfl (any_of HT_.out (by kernel_rfl)) (fun _ _ _ h => h) (Or.inl ⟨by rfl, ?_⟩) ?_ ?_
                                          rotate_left
                                          · intro w'
                                            go_simp
                                            with_reducible rfl
                                          rotate_left
                                          · simp only [Act.put, List.setIfInBounds_toArray, List.set_cons_zero, List.set_cons_succ, i64_w, i32_w]
                                            rfl
                                          refine one_ (i := 8) (N := some 59) #[true, true, true, true, true, true, true, true, true, false, false, true, false, false, false, false, false, false, false, false] rfl rfl (one_of HT_.out (by kernel_rfl)) (by decide) (fun K hK => ?_)
                                          refine Kd.R_make_step (Kd.int .u8) _ 5 (by rfl) (N := 59) rfl 42 _ _ rfl 70 rfl rfl Try.underlying42 (.int .u8 0) 1 info5 rfl (by decide) (by omega) 0 (ok := fun _ => True) (okp := fun _ => True) rfl (fun _ hk => hk) trivial (by omega) (by omega) (Below.refl _ _) (Nat.le_refl _) ?_
                                          intro v137 w48 ho49 hb hg_ hnew_
                                          clear hg_ hnew_
                                          (first | rw [← Ny136.out] at ho49 | (simp only [Int.reduceToNat] at ho49; rw [← Ny136.out] at ho49))
                                          have n0_ := Aside0.mk (Kd.R_lower ho49 (below_size (by repeat (first | (with_reducible first | exact HB.out | apply below_alloc | apply pw_below_drewN | apply below_drew1) | exact HB.out))))
                                          have n1_ := Aside0.mk (below_step (by repeat (first | (with_reducible first | exact HB.out | apply below_alloc | apply pw_below_drewN | apply below_drew1) | exact HB.out)) hb)
                                          clear HB
                                          have HO138 := n0_
                                          have HB := n1_
                                          clear n0_ n1_
                                          clear hb ho49
                                          refine hK.out _ _ trivial (fun hHeld => ?_)
                                          clear hK K
                                          refine norm_ (a' := ?_) ?_ ?_
                                          rotate_left
                                          · show Act.put _ (some 59) _ = _
                                            simp only [Act.put, List.setIfInBounds_toArray, List.set_cons_zero, List.set_cons_succ, i64_w, i32_w]
                                            rfl
                                          refine one_ (i := 9) (N := some 60) #[true, true, true, true, true, true, true, true, true, true, false, true, false, false, false, false, false, false, false, false] rfl rfl (one_of HT_.out (by kernel_rfl)) (by decide) (fun K hK => ?_)
                                          have hcv50 := own_string (P := Try.prog) Try.underlying42 Try.underlying5 Try.underlying9 (Kd.own_of_R HO138.out)
                                          refine value_ (w1 := ?_) (v := ?_) (by rfl) rfl ?_ ?_
                                          rotate_left 2
                                          · go_simp
                                            constructor
                                            · rfl
                                            · rfl
                                          clear hcv50
                                          refine hK.out _ _ trivial (fun hHeld => ?_)
                                          clear hK K
                                          refine norm_ (a' := ?_) ?_ ?_
                                          rotate_left
                                          · show Act.put _ (some 60) _ = _
                                            simp only [Act.put, List.setIfInBounds_toArray, List.set_cons_zero, List.set_cons_succ, i64_w, i32_w]
                                            rfl
                                          exact norm_ (by simp only [putAll, Act.put, List.setIfInBounds_toArray, List.set_cons_zero, List.set_cons_succ]) (hCont (v137) _ ⟨(by (with_reducible repeat (first | apply Kd.R_alloc | apply Kd.R_drewN | apply Kd.R_drew)); exact HO138.out), (by repeat (first | (with_reducible first | exact HB.out | apply below_alloc | apply pw_below_drewN | apply below_drew1) | exact HB.out))⟩)
                                        · skip
                                          refine Kd.R_make_step (Kd.int .u8) _ 5 (by rfl) (N := 59) rfl 42 _ _ rfl 70 rfl rfl Try.underlying42 (.int .u8 0) 1 info5 rfl (by decide) (by omega) 0 (ok := fun _ => True) (okp := fun _ => True) rfl (fun _ hk => hk) trivial (by omega) (by omega) (Below.refl _ _) (Nat.le_refl _) ?_
                                          intro v137 w47 ho48 hb hg_ hnew_
                                          clear hg_ hnew_
                                          (first | rw [← Ny136.out] at ho48 | (simp only [Int.reduceToNat] at ho48; rw [← Ny136.out] at ho48))
                                          have n0_ := Aside0.mk (Kd.R_lower ho48 (below_size (by repeat (first | (with_reducible first | exact HB.out | apply below_alloc | apply pw_below_drewN | apply below_drew1) | exact HB.out))))
                                          have n1_ := Aside0.mk (below_step (by repeat (first | (with_reducible first | exact HB.out | apply below_alloc | apply pw_below_drewN | apply below_drew1) | exact HB.out)) hb)
                                          clear HB
                                          have HO138 := n0_
                                          have HB := n1_
                                          clear n0_ n1_
                                          clear hb ho48
                                          refine hK.out _ _ trivial (fun hHeld => ?_)
                                          clear hK K
                                          refine norm_ (a' := ?_) ?_ ?_
                                          rotate_left
                                          · show Act.put _ (some 59) _ = _
                                            simp only [Act.put, List.setIfInBounds_toArray, List.set_cons_zero, List.set_cons_succ, i64_w, i32_w]
                                            rfl
                                          refine two_ (i := 6) (j := 9) (Ni := some 57) (Nj := some 60) #[true, true, true, true, true, true, true, false, true, false, false, true, false, false, false, false, false, false, false, false] #[true, true, true, true, true, true, false, false, true, true, false, true, false, false, false, false, false, false, false, false] rfl rfl rfl rfl (two_of HT_.out (by kernel_rfl)) (by decide) (by decide) (fun K hK => ?_) (fun K hK => ?_)
                                          · skip
                                            refine goes_ Try.func23 (by kernel_rfl) rfl #[.int .i64 (wrap64 ((wrap64 ((a0.size : Int) + 2)) + (Go.bits .and .i64 a1 63)))] (by rfl) rfl rfl (by (try simp only [List.map_toArray, List.map_cons, List.map_nil]); first | done | rfl | (simp only [List.length_drop, List.length_take]; rfl)) ?_
                                            with_reducible refine (wimplelaw5_pointer.calls (wrap64 ((wrap64 ((a0.size : Int) + 2)) + (Go.bits .and .i64 a1 63))) t135 _ A10.out).mono ?_
                                            rintro e w49 ⟨rfl, hb⟩
                                            refine ⟨_, rfl, ?_⟩
                                            have n0_ := Aside0.mk (Kd.R_below (by (with_reducible repeat (first | apply Kd.R_alloc | apply Kd.R_drewN | apply Kd.R_drew)); exact HO138.out) hb)
                                            have n1_ := Aside0.mk (below_step (by repeat (first | (with_reducible first | exact HB.out | apply below_alloc | apply pw_below_drewN | apply below_drew1) | exact HB.out)) hb)
                                            clear HO138
                                            clear HB
                                            have HO138 := n0_
                                            have HB := n1_
                                            clear n0_ n1_
                                            (try clear hb)
                                            (try clear hb2)
                                            (try clear hk)
                                            (try clear hi)
                                            refine hK.out _ _ trivial (fun hHeld => ?_)
                                            clear hK K
                                            refine norm_ (a' := ?_) ?_ ?_
                                            rotate_left
                                            · show Act.put _ (some 57) _ = _
                                              simp only [Act.put, List.setIfInBounds_toArray, List.set_cons_zero, List.set_cons_succ, i64_w, i32_w]
                                              rfl
                                            refine pure_ (i := 7) (N := some 58) (v := ?_) (a' := ?_) #[true, true, true, true, true, true, true, true, true, false, false, true, false, false, false, false, false, false, false, false] rfl rfl (any_of HT_.out (by kernel_rfl)) (fun _ _ _ h => h) (Or.inl ⟨by rfl, ?_⟩) ?_ ?_
                                            rotate_left
                                            · intro w'
                                              go_simp
                                              with_reducible rfl
                                            rotate_left
                                            · simp only [Act.put, List.setIfInBounds_toArray, List.set_cons_zero, List.set_cons_succ, i64_w, i32_w]
                                              rfl
                                            refine one_ (i := 9) (N := some 60) #[true, true, true, true, true, true, true, true, true, true, false, true, false, false, false, false, false, false, false, false] rfl rfl (one_of HT_.out (by kernel_rfl)) (by decide) (fun K hK => ?_)
                                            have hcv50 := own_string (P := Try.prog) Try.underlying42 Try.underlying5 Try.underlying9 (Kd.own_of_R HO138.out)
                                            refine value_ (w1 := ?_) (v := ?_) (by rfl) rfl ?_ ?_
                                            rotate_left 2
                                            · go_simp
                                              constructor
                                              · rfl
                                              · rfl
                                            clear hcv50
                                            refine hK.out _ _ trivial (fun hHeld => ?_)
                                            clear hK K
                                            refine norm_ (a' := ?_) ?_ ?_
                                            rotate_left
                                            · show Act.put _ (some 60) _ = _
                                              simp only [Act.put, List.setIfInBounds_toArray, List.set_cons_zero, List.set_cons_succ, i64_w, i32_w]
                                              rfl
                                            exact norm_ (by simp only [putAll, Act.put, List.setIfInBounds_toArray, List.set_cons_zero, List.set_cons_succ]) (hCont (v137) _ ⟨(by (with_reducible repeat (first | apply Kd.R_alloc | apply Kd.R_drewN | apply Kd.R_drew)); exact HO138.out), (by repeat (first | (with_reducible first | exact HB.out | apply below_alloc | apply pw_below_drewN | apply below_drew1) | exact HB.out))⟩)
                                          · skip
                                            have hcv49 := own_string (P := Try.prog) Try.underlying42 Try.underlying5 Try.underlying9 (Kd.own_of_R HO138.out)
                                            refine value_ (w1 := ?_) (v := ?_) (by rfl) rfl ?_ ?_
                                            rotate_left 2
                                            · go_simp
                                              constructor
                                              · rfl
                                              · rfl
                                            clear hcv49
                                            refine hK.out _ _ trivial (fun hHeld => ?_)
                                            clear hK K
                                            refine norm_ (a' := ?_) ?_ ?_
                                            rotate_left
                                            · show Act.put _ (some 60) _ = _
                                              simp only [Act.put, List.setIfInBounds_toArray, List.set_cons_zero, List.set_cons_succ, i64_w, i32_w]
                                              rfl
                                            refine one_ (i := 6) (N := some 57) #[true, true, true, true, true, true, true, false, true, true, false, true, false, false, false, false, false, false, false, false] rfl rfl (one_of HT_.out (by kernel_rfl)) (by decide) (fun K hK => ?_)
                                            refine goes_ Try.func23 (by kernel_rfl) rfl #[.int .i64 (wrap64 ((wrap64 ((a0.size : Int) + 2)) + (Go.bits .and .i64 a1 63)))] (by rfl) rfl rfl (by (try simp only [List.map_toArray, List.map_cons, List.map_nil]); first | done | rfl | (simp only [List.length_drop, List.length_take]; rfl)) ?_
                                            with_reducible refine (wimplelaw5_pointer.calls (wrap64 ((wrap64 ((a0.size : Int) + 2)) + (Go.bits .and .i64 a1 63))) t135 _ A10.out).mono ?_
                                            rintro e w50 ⟨rfl, hb⟩
                                            refine ⟨_, rfl, ?_⟩
                                            have n0_ := Aside0.mk (Kd.R_below (by (with_reducible repeat (first | apply Kd.R_alloc | apply Kd.R_drewN | apply Kd.R_drew)); exact HO138.out) hb)
                                            have n1_ := Aside0.mk (below_step (by repeat (first | (with_reducible first | exact HB.out | apply below_alloc | apply pw_below_drewN | apply below_drew1) | exact HB.out)) hb)
                                            clear HO138
                                            clear HB
                                            have HO138 := n0_
                                            have HB := n1_
                                            clear n0_ n1_
                                            (try clear hb)
                                            (try clear hb2)
                                            (try clear hk)
                                            (try clear hi)
                                            refine hK.out _ _ trivial (fun hHeld => ?_)
                                            clear hK K
                                            refine norm_ (a' := ?_) ?_ ?_
                                            rotate_left
                                            · show Act.put _ (some 57) _ = _
                                              simp only [Act.put, List.setIfInBounds_toArray, List.set_cons_zero, List.set_cons_succ, i64_w, i32_w]
                                              rfl
                                            refine pure_ (i := 7) (N := some 58) (v := ?_) (a' := ?_) #[true, true, true, true, true, true, true, true, true, true, false, true, false, false, false, false, false, false, false, false] rfl rfl (any_of HT_.out (by kernel_rfl)) (fun _ _ _ h => h) (Or.inl ⟨by rfl, ?_⟩) ?_ ?_
                                            rotate_left
                                            · intro w'
                                              go_simp
                                              with_reducible rfl
                                            rotate_left
                                            · simp only [Act.put, List.setIfInBounds_toArray, List.set_cons_zero, List.set_cons_succ, i64_w, i32_w]
                                              rfl
                                            exact norm_ (by simp only [putAll, Act.put, List.setIfInBounds_toArray, List.set_cons_zero, List.set_cons_succ]) (hCont (v137) _ ⟨(by (with_reducible repeat (first | apply Kd.R_alloc | apply Kd.R_drewN | apply Kd.R_drew)); exact HO138.out), (by repeat (first | (with_reducible first | exact HB.out | apply below_alloc | apply pw_below_drewN | apply below_drew1) | exact HB.out))⟩)
                                      rintro v137 w51 ⟨h0_, h1_⟩
                                      have n0_ : Aside0 (Kd.R (Kd.int .u8) 5 w51 w.heap.size (fun _ => True) v137 y136) := ⟨h0_⟩
                                      have n1_ : Aside0 (Below w.heap.size w w51) := ⟨h1_⟩
                                      clear HB
                                      clear h0_ h1_
                                      have HO138 := n0_
                                      have HB := n1_
                                      clear n0_ n1_
                                      have hHeld := trivial
                                      refine norm_ (a' := ?_) ?_ ?_
                                      rotate_left
                                      · simp only [putAll, Act.put, List.setIfInBounds_toArray, List.set_cons_zero, List.set_cons_succ]
                                        rfl
                                      refine pure_ (i := 10) (N := some 61) (v := ?_) (a' := ?_) #[true, true, true, true, true, true, true, true, true, true, true, true, false, false, false, false, false, false, false, false] rfl rfl (any_of HT_.out (by kernel_rfl)) (fun _ _ _ h => h) (Or.inl ⟨by rfl, ?_⟩) ?_ ?_
                                      rotate_left
                                      · intro w'
                                        go_simp
                                        with_reducible rfl
                                      rotate_left
                                      · simp only [Act.put, List.setIfInBounds_toArray, List.set_cons_zero, List.set_cons_succ, i64_w, i32_w]
                                        rfl
                                      refine one_ (i := 12) (N := some 63) #[true, true, true, true, true, true, true, true, true, true, true, true, true, false, false, false, false, false, false, false] rfl rfl (one_of HT_.out (by kernel_rfl)) (by decide) (fun K hK => ?_)
                                      refine goes_ Try.func22 (by kernel_rfl) rfl #[.string ((a0 ++ t135) ++ (strOfNums y136)), .int .i64 (a0.size : Int)] (by rfl) rfl rfl (by (try simp only [List.map_toArray, List.map_cons, List.map_nil]); first | done | rfl | (simp only [List.length_drop, List.length_take]; rfl)) ?_
                                      with_reducible refine (comp_Name.calls k ((a0 ++ t135) ++ (strOfNums y136)) (a0.size : Int) t139 t140 t141 _ A14.out).mono ?_
                                      rintro e w52 ⟨rfl, hb⟩
                                      refine ⟨_, rfl, ?_⟩
                                      have n0_ := Aside0.mk (Kd.R_below (by (with_reducible repeat (first | apply Kd.R_alloc | apply Kd.R_drewN | apply Kd.R_drew)); exact HO138.out) hb)
                                      have n1_ := Aside0.mk (below_step (by repeat (first | (with_reducible first | exact HB.out | apply below_alloc | apply pw_below_drewN | apply below_drew1) | exact HB.out)) hb)
                                      clear HO138
                                      clear HB
                                      have HO138 := n0_
                                      have HB := n1_
                                      clear n0_ n1_
                                      (try clear hb)
                                      (try clear hb2)
                                      (try clear hk)
                                      (try clear hi)
                                      refine hK.out _ _ trivial (fun hHeld => ?_)
                                      clear hK K
                                      refine norm_ (a' := ?_) ?_ ?_
                                      rotate_left
                                      · show Act.put _ (some 63) _ = _
                                        simp only [Act.put, List.setIfInBounds_toArray, List.set_cons_zero, List.set_cons_succ, i64_w, i32_w]
                                        rfl
                                      refine pure_ (i := 13) (N := some 50) (v := ?_) (a' := ?_) #[true, true, true, true, true, true, true, true, true, true, true, true, true, true, false, false, false, false, false, false] rfl rfl (any_of HT_.out (by kernel_rfl)) (fun _ _ _ h => h) (Or.inl ⟨by rfl, ?_⟩) ?_ ?_
                                      rotate_left
                                      · intro w'
                                        go_simp
                                        with_reducible rfl
                                      rotate_left
                                      · simp only [Act.put, List.setIfInBounds_toArray, List.set_cons_zero, List.set_cons_succ, i64_w, i32_w]
                                        rfl
                                      refine pure_ (i := 14) (N := some 64) (v := ?_) (a' := ?_) #[true, true, true, true, true, true, true, true, true, true, true, true, true, true, true, false, false, false, false, false] rfl rfl (any_of HT_.out (by kernel_rfl)) (fun _ _ _ h => h) (Or.inl ⟨by rfl, ?_⟩) ?_ ?_
                                      rotate_left
                                      · intro w'
                                        go_simp
                                        with_reducible rfl
                                      rotate_left
                                      · simp only [Act.put, List.setIfInBounds_toArray, List.set_cons_zero, List.set_cons_succ, i64_w, i32_w]
                                        rfl
                                      refine pure_ (i := 15) (N := some 65) (v := ?_) (a' := ?_) #[true, true, true, true, true, true, true, true, true, true, true, true, true, true, true, true, false, false, false, false] rfl rfl (any_of HT_.out (by kernel_rfl)) (fun _ _ _ h => h) (Or.inl ⟨by rfl, ?_⟩) ?_ ?_
                                      rotate_left
                                      · intro w'
                                        go_simp
                                        with_reducible rfl
                                      rotate_left
                                      · simp only [Act.put, List.setIfInBounds_toArray, List.set_cons_zero, List.set_cons_succ, i64_w, i32_w]
                                        rfl
                                      refine pure_ (i := 16) (N := some 66) (v := ?_) (a' := ?_) #[true, true, true, true, true, true, true, true, true, true, true, true, true, true, true, true, true, false, false, false] rfl rfl (any_of HT_.out (by kernel_rfl)) (fun _ _ _ h => h) (Or.inl ⟨by rfl, ?_⟩) ?_ ?_
                                      rotate_left
                                      · intro w'
                                        go_simp
                                        with_reducible rfl
                                      rotate_left
                                      · simp only [Act.put, List.setIfInBounds_toArray, List.set_cons_zero, List.set_cons_succ, i64_w, i32_w]
                                        rfl
                                      refine pure_ (i := 17) (N := some 10) (v := ?_) (a' := ?_) #[true, true, true, true, true, true, true, true, true, true, true, true, true, true, true, true, true, true, false, false] rfl rfl (any_of HT_.out (by kernel_rfl)) (fun _ _ _ h => h) (Or.inl ⟨by rfl, ?_⟩) ?_ ?_
                                      rotate_left
                                      · intro w'
                                        go_simp
                                        with_reducible rfl
                                      rotate_left
                                      · simp only [Act.put, List.setIfInBounds_toArray, List.set_cons_zero, List.set_cons_succ, i64_w, i32_w]
                                        rfl
                                      refine pure_ (i := 18) (N := some 11) (v := ?_) (a' := ?_) #[true, true, true, true, true, true, true, true, true, true, true, true, true, true, true, true, true, true, true, false] rfl rfl (any_of HT_.out (by kernel_rfl)) (fun _ _ _ h => h) (Or.inl ⟨by rfl, ?_⟩) ?_ ?_
                                      rotate_left
                                      · intro w'
                                        go_simp
                                        with_reducible rfl
                                      rotate_left
                                      · simp only [Act.put, List.setIfInBounds_toArray, List.set_cons_zero, List.set_cons_succ, i64_w, i32_w]
                                        rfl
                                      refine pure_ (i := 19) (N := some 12) (v := ?_) (a' := ?_) #[true, true, true, true, true, true, true, true, true, true, true, true, true, true, true, true, true, true, true, true] rfl rfl (any_of HT_.out (by kernel_rfl)) (fun _ _ _ h => h) (Or.inl ⟨by rfl, ?_⟩) ?_ ?_
                                      rotate_left
                                      · intro w'
                                        go_simp
                                        with_reducible rfl
                                      rotate_left
                                      · simp only [Act.put, List.setIfInBounds_toArray, List.set_cons_zero, List.set_cons_succ, i64_w, i32_w]
                                        rfl
                                      refine done_ (done_of HT_.out (by kernel_rfl)) ?_
                                      try go_wp2_with (first | ((with_reducible refine gate_dst (N := 71) rfl ?_); (with_reducible refine gate_callee (f := 23) rfl ?_); refine goesL_ (some 71) rfl rfl Try.func23 (by kernel_rfl) rfl #[.int .i64 (a0.size : Int)] rfl (by (try simp only [List.map_toArray, List.map_cons, List.map_nil]); first | done | rfl | (simp only [List.length_drop, List.length_take]; rfl)) ?_; (with_reducible refine (wimplelaw5_pointer.calls (a0.size : Int) t142 _ A16.out).mono ?_); rintro e w53 ⟨rfl, hb⟩; refine ⟨_, rfl, ?_⟩; have n0_ := Aside0.mk (Kd.R_below (by (with_reducible repeat (first | apply Kd.R_alloc | apply Kd.R_drewN | apply Kd.R_drew)); exact HO138.out) hb); have n1_ := Aside0.mk (below_step (by repeat (first | (with_reducible first | exact HB.out | apply below_alloc | apply pw_below_drewN | apply below_drew1) | exact HB.out)) hb); clear HO138; clear HB; have HO138 := n0_; have HB := n1_; clear n0_ n1_; (try clear hb); (try clear hb2); (try clear hk); (try clear hi)) | ((with_reducible refine gate_dst (N := 74) rfl ?_); (with_reducible refine gate_callee (f := 22) rfl ?_); refine goesL_ (some 74) rfl rfl Try.func22 (by kernel_rfl) rfl #[.string ((a0 ++ (⟨#[1, 97]⟩ : ByteArray)) ++ t142), .int .i64 (a0.size : Int)] rfl (by (try simp only [List.map_toArray, List.map_cons, List.map_nil]); first | done | rfl | (simp only [List.length_drop, List.length_take]; rfl)) ?_; (with_reducible refine (comp_Name.calls k ((a0 ++ (⟨#[1, 97]⟩ : ByteArray)) ++ t142) (a0.size : Int) t143 t144 t145 _ A18.out).mono ?_); rintro e w54 ⟨rfl, hb⟩; refine ⟨_, rfl, ?_⟩; have n0_ := Aside0.mk (Kd.R_below (by (with_reducible repeat (first | apply Kd.R_alloc | apply Kd.R_drewN | apply Kd.R_drew)); exact HO138.out) hb); have n1_ := Aside0.mk (below_step (by repeat (first | (with_reducible first | exact HB.out | apply below_alloc | apply pw_below_drewN | apply below_drew1) | exact HB.out)) hb); clear HO138; clear HB; have HO138 := n0_; have HB := n1_; clear n0_ n1_; (try clear hb); (try clear hb2); (try clear hk); (try clear hi)) | ((with_reducible refine gate_dst (N := 83) rfl ?_); (with_reducible refine gate_callee (f := 23) rfl ?_); refine goesL_ (some 83) rfl rfl Try.func23 (by kernel_rfl) rfl #[.int .i64 ((a0.size : Int) + 2)] rfl (by (try simp only [List.map_toArray, List.map_cons, List.map_nil]); first | done | rfl | (simp only [List.length_drop, List.length_take]; rfl)) ?_; (with_reducible refine (wimplelaw5_pointer.calls ((a0.size : Int) + 2) t146 _ (by have h_ := A19.out; rwa [show wrap64 ((a0.size : Int) + 2) = (a0.size : Int) + 2 by unfold wrap64; omega] at h_)).mono ?_); rintro e w55 ⟨rfl, hb⟩; refine ⟨_, rfl, ?_⟩; have n0_ := Aside0.mk (Kd.R_below (by (with_reducible repeat (first | apply Kd.R_alloc | apply Kd.R_drewN | apply Kd.R_drew)); exact HO138.out) hb); have n1_ := Aside0.mk (below_step (by repeat (first | (with_reducible first | exact HB.out | apply below_alloc | apply pw_below_drewN | apply below_drew1) | exact HB.out)) hb); clear HO138; clear HB; have HO138 := n0_; have HB := n1_; clear n0_ n1_; (try clear hb); (try clear hb2); (try clear hk); (try clear hi)) | ((with_reducible refine gate_dst (N := 86) rfl ?_); (with_reducible refine gate_callee (f := 22) rfl ?_); refine goesL_ (some 86) rfl rfl Try.func22 (by kernel_rfl) rfl #[.string ((a0 ++ (⟨#[1, 97]⟩ : ByteArray)) ++ t146), .int .i64 (a0.size : Int)] rfl (by (try simp only [List.map_toArray, List.map_cons, List.map_nil]); first | done | rfl | (simp only [List.length_drop, List.length_take]; rfl)) ?_; (with_reducible refine (comp_Name.calls k ((a0 ++ (⟨#[1, 97]⟩ : ByteArray)) ++ t146) (a0.size : Int) t147 t148 t149 _ A21.out).mono ?_); rintro e w56 ⟨rfl, hb⟩; refine ⟨_, rfl, ?_⟩; have n0_ := Aside0.mk (Kd.R_below (by (with_reducible repeat (first | apply Kd.R_alloc | apply Kd.R_drewN | apply Kd.R_drew)); exact HO138.out) hb); have n1_ := Aside0.mk (below_step (by repeat (first | (with_reducible first | exact HB.out | apply below_alloc | apply pw_below_drewN | apply below_drew1) | exact HB.out)) hb); clear HO138; clear HB; have HO138 := n0_; have HB := n1_; clear n0_ n1_; (try clear hb); (try clear hb2); (try clear hk); (try clear hi)) | ((with_reducible refine gate_dst (N := 94) rfl ?_); (with_reducible refine gate_callee (f := 22) rfl ?_); refine goesL_ (some 94) rfl rfl Try.func22 (by kernel_rfl) rfl #[.string (a0 ++ (⟨#[192]⟩ : ByteArray)), .int .i64 (a0.size : Int)] rfl (by (try simp only [List.map_toArray, List.map_cons, List.map_nil]); first | done | rfl | (simp only [List.length_drop, List.length_take]; rfl)) ?_; (with_reducible refine (comp_Name.calls k (a0 ++ (⟨#[192]⟩ : ByteArray)) (a0.size : Int) t150 t151 t152 _ A23.out).mono ?_); rintro e w57 ⟨rfl, hb⟩; refine ⟨_, rfl, ?_⟩; have n0_ := Aside0.mk (Kd.R_below (by (with_reducible repeat (first | apply Kd.R_alloc | apply Kd.R_drewN | apply Kd.R_drew)); exact HO138.out) hb); have n1_ := Aside0.mk (below_step (by repeat (first | (with_reducible first | exact HB.out | apply below_alloc | apply pw_below_drewN | apply below_drew1) | exact HB.out)) hb); clear HO138; clear HB; have HO138 := n0_; have HB := n1_; clear n0_ n1_; (try clear hb); (try clear hb2); (try clear hk); (try clear hi)) | ((with_reducible refine gate_dst (N := 104) rfl ?_); refine Kd.R_lit (Kd.int .u8) _ 5 ?hg (N := 104) ?hd (xs := ([(wrap64 (64 + (Go.bits .and .i64 a1 127))) % 256, 0] : List Int)) (inner := [.int .u8 ((wrap64 (64 + (Go.bits .and .i64 a1 127))) % 256), .int .u8 0]) (ok := fun _ => True) (okp := fun _ => True) ?hr ?hp (fun _ hk => hk) trivial (Below.refl _ _) (Nat.le_refl _) (by simp) ?_; (case hd => rfl); (case hg => rfl); (case hr => first | (go_simp; done) | (go_simp; rfl)); (case hp => exact (Reps.one (show Kd.M (Kd.int .u8) _ _ _ ((wrap64 (64 + (Go.bits .and .i64 a1 127))) % 256) [.int .u8 ((wrap64 (64 + (Go.bits .and .i64 a1 127))) % 256)] from rfl) (Reps.one (show Kd.M (Kd.int .u8) _ _ _ 0 [.int .u8 0] from rfl) (Reps.none _ _)))); intro v154 w58 ho59 hb hg_ hnew_; clear hg_ hnew_; (first | rw [← Ny153.out] at ho59 | (simp only [Int.reduceToNat] at ho59; rw [← Ny153.out] at ho59)); have n0_ := Aside0.mk (Kd.R_elder' (by (with_reducible repeat (first | apply Kd.R_alloc | apply Kd.R_drewN | apply Kd.R_drew)); exact HO138.out) (Kd.R_base ho59) hb); have n1_ := Aside0.mk (Kd.R_lower (Kd.R_new' ho59 (Kd.R_lt (by (with_reducible repeat (first | apply Kd.R_alloc | apply Kd.R_drewN | apply Kd.R_drew)); exact HO138.out))) (below_size (by repeat (first | (with_reducible first | exact HB.out | apply below_alloc | apply pw_below_drewN | apply below_drew1) | exact HB.out)))); have n2_ := Aside0.mk (below_step (by repeat (first | (with_reducible first | exact HB.out | apply below_alloc | apply pw_below_drewN | apply below_drew1) | exact HB.out)) hb); clear HO138; clear HB; have HO138 := n0_; have HO155 := n1_; have HB := n2_; clear n0_ n1_ n2_; clear hb ho59; have hcv60 := own_string (P := Try.prog) Try.underlying42 Try.underlying5 Try.underlying9 (Kd.own_of_R HO155.out)) | ((with_reducible refine gate_dst (N := 108) rfl ?_); (with_reducible refine gate_callee (f := 22) rfl ?_); refine goesL_ (some 108) rfl rfl Try.func22 (by kernel_rfl) rfl #[.string (a0 ++ (strOfNums y153)), .int .i64 (a0.size : Int)] rfl (by (try simp only [List.map_toArray, List.map_cons, List.map_nil]); first | done | rfl | (simp only [List.length_drop, List.length_take]; rfl)) ?_; (with_reducible refine (comp_Name.calls k (a0 ++ (strOfNums y153)) (a0.size : Int) t156 t157 t158 _ A25.out).mono ?_); rintro e w61 ⟨rfl, hb⟩; refine ⟨_, rfl, ?_⟩; have n0_ := Aside0.mk (Kd.R_below (by (with_reducible repeat (first | apply Kd.R_alloc | apply Kd.R_drewN | apply Kd.R_drew)); exact HO138.out) hb); have n1_ := Aside0.mk (Kd.R_below (by (with_reducible repeat (first | apply Kd.R_alloc | apply Kd.R_drewN | apply Kd.R_drew)); exact HO155.out) hb); have n2_ := Aside0.mk (below_step (by repeat (first | (with_reducible first | exact HB.out | apply below_alloc | apply pw_below_drewN | apply below_drew1) | exact HB.out)) hb); clear HO138; clear HO155; clear HB; have HO138 := n0_; have HO155 := n1_; have HB := n2_; clear n0_ n1_ n2_; (try clear hb); (try clear hb2); (try clear hk); (try clear hi)) | ((with_reducible refine gate_dst (N := 117) rfl ?_); (with_reducible refine gate_callee (f := 22) rfl ?_); refine goesL_ (some 117) rfl rfl Try.func22 (by kernel_rfl) rfl #[.string a0, .int .i64 (wrap64 ((-1) - (Go.bits .and .i64 a1 63)))] rfl (by (try simp only [List.map_toArray, List.map_cons, List.map_nil]); first | done | rfl | (simp only [List.length_drop, List.length_take]; rfl)) ?_; (with_reducible refine (comp_Name.calls k a0 (wrap64 ((-1) - (Go.bits .and .i64 a1 63))) t159 t160 t161 _ A26.out).mono ?_); rintro e w62 ⟨rfl, hb⟩; refine ⟨_, rfl, ?_⟩; have n0_ := Aside0.mk (Kd.R_below (by (with_reducible repeat (first | apply Kd.R_alloc | apply Kd.R_drewN | apply Kd.R_drew)); exact HO138.out) hb); have n1_ := Aside0.mk (Kd.R_below (by (with_reducible repeat (first | apply Kd.R_alloc | apply Kd.R_drewN | apply Kd.R_drew)); exact HO155.out) hb); have n2_ := Aside0.mk (below_step (by repeat (first | (with_reducible first | exact HB.out | apply below_alloc | apply pw_below_drewN | apply below_drew1) | exact HB.out)) hb); clear HO138; clear HO155; clear HB; have HO138 := n0_; have HO155 := n1_; have HB := n2_; clear n0_ n1_ n2_; (try clear hb); (try clear hb2); (try clear hk); (try clear hi)) | ((with_reducible refine gate_dst (N := 124) rfl ?_); (with_reducible refine gate_callee (f := 22) rfl ?_); refine goesL_ (some 124) rfl rfl Try.func22 (by kernel_rfl) rfl #[.string a0, .int .i64 (a0.size : Int)] rfl (by (try simp only [List.map_toArray, List.map_cons, List.map_nil]); first | done | rfl | (simp only [List.length_drop, List.length_take]; rfl)) ?_; (with_reducible refine (comp_Name.calls k a0 (a0.size : Int) t162 t163 t164 _ A27.out).mono ?_); rintro e w63 ⟨rfl, hb⟩; refine ⟨_, rfl, ?_⟩; have n0_ := Aside0.mk (Kd.R_below (by (with_reducible repeat (first | apply Kd.R_alloc | apply Kd.R_drewN | apply Kd.R_drew)); exact HO138.out) hb); have n1_ := Aside0.mk (Kd.R_below (by (with_reducible repeat (first | apply Kd.R_alloc | apply Kd.R_drewN | apply Kd.R_drew)); exact HO155.out) hb); have n2_ := Aside0.mk (below_step (by repeat (first | (with_reducible first | exact HB.out | apply below_alloc | apply pw_below_drewN | apply below_drew1) | exact HB.out)) hb); clear HO138; clear HO155; clear HB; have HO138 := n0_; have HO155 := n1_; have HB := n2_; clear n0_ n1_ n2_; (try clear hb); (try clear hb2); (try clear hk); (try clear hi)) | ((with_reducible refine gate_dst (N := 129) rfl ?_); (with_reducible refine gate_callee (f := 14) rfl ?_); refine goesL_ (some 129) rfl rfl Try.func14 (by kernel_rfl) rfl #[.int .i64 t134] rfl (by (try simp only [List.map_toArray, List.map_cons, List.map_nil]); first | done | rfl | (simp only [List.length_drop, List.length_take]; rfl)) ?_; (with_reducible refine (wimplelaw0_Num.calls t134 t165 _ A28.out).mono ?_); rintro e w' ⟨rfl, ⟨nd, rfl⟩⟩; refine ⟨_, rfl, ?_⟩) | (go_at_call 14; (with_reducible refine (wimplelaw0_Num.calls t141 t166 _ A30.out).mono ?_); rintro e w' ⟨rfl, ⟨nd, rfl⟩⟩) | (go_at_call 14; (with_reducible refine (wimplelaw0_Num.calls t145 t167 _ A32.out).mono ?_); rintro e w' ⟨rfl, ⟨nd, rfl⟩⟩) | (go_at_call 14; (with_reducible refine (wimplelaw0_Num.calls t149 t168 _ A34.out).mono ?_); rintro e w' ⟨rfl, ⟨nd, rfl⟩⟩) | (go_at_call 14; (with_reducible refine (wimplelaw0_Num.calls t152 t169 _ A36.out).mono ?_); rintro e w' ⟨rfl, ⟨nd, rfl⟩⟩) | (go_at_call 14; (with_reducible refine (wimplelaw0_Num.calls t158 t170 _ A38.out).mono ?_); rintro e w' ⟨rfl, ⟨nd, rfl⟩⟩) | (go_at_call 14; (with_reducible refine (wimplelaw0_Num.calls t161 t171 _ A40.out).mono ?_); rintro e w' ⟨rfl, ⟨nd, rfl⟩⟩) | (go_at_call 14; (with_reducible refine (wimplelaw0_Num.calls t164 t172 _ A42.out).mono ?_); rintro e w' ⟨rfl, ⟨nd, rfl⟩⟩))
                                      go_ret
                                      exact ⟨by first | rfl | (simp [errW_none, errW_some] <;> rfl) | (simp [*, errW_none, errW_some] <;> rfl), by repeat (first | (with_reducible first | exact HB.out | apply below_alloc | apply pw_below_drewN | apply below_drew1) | exact HB.out)⟩
                                    · rw [if_neg c41] at H
                                      exact absurd H (by simp)
                                  · rw [if_neg c39] at H
                                    exact absurd H (by simp)
                                · rw [if_neg c37] at H
                                  exact absurd H (by simp)
                              · rw [if_neg c35] at H
                                exact absurd H (by simp)
                            · rw [if_neg c33] at H
                              exact absurd H (by simp)
                          · rw [if_neg c31] at H
                            exact absurd H (by simp)
                        · rw [if_neg c29] at H
                          exact absurd H (by simp)
                      · rw [if_neg c24] at H
                        exact absurd H (by simp)
                    · rw [if_neg c22] at H
                      exact absurd H (by simp)
                  · rw [if_neg c20] at H
                    exact absurd H (by simp)
                · rw [if_neg c17] at H
                  exact absurd H (by simp)
              · rw [if_neg c15] at H
                exact absurd H (by simp)
            · rw [if_neg c13] at H
              exact absurd H (by simp)
          · rw [if_neg c12] at H
            exact absurd H (by simp)
        · rw [if_neg c11] at H
          exact absurd H (by simp)
      · rw [if_neg c8] at H
        exact absurd H (by simp)
  · replace c4 := Bool.eq_false_iff.mpr c4
    subst c4
    have H1 : (none) = some r := by rw [if_neg (show ¬ (false = true) by decide)] at H; exact H
    clear H
    have H := H1
    clear H1
    exact absurd H (by simp)

/-- THE ONE PURE STATEMENT of wimplelaw5_CompLoops: yours. -/
def wimplelaw5_CompLoops.Pure : Prop := ∀ (a0 : ByteArray) (a1 : Int), a0.size ≤ 140737488351232 → (Lit.int .i64 a1).wf = true → ∃ k, wimplelaw5_CompLoops.f k a0 a1 = some true
theorem wimplelaw5_CompLoops.walk (P : wimplelaw5_CompLoops.Pure) (a0 : ByteArray) (a1 : Int) (w : World) (w0 : a0.size ≤ 140737488351232) (w1 : (Lit.int .i64 a1).wf = true) :
    Calls Try.prog 5 #[.string a0, .int .i64 a1] w fun e w' => e = .returned (.bool true) ∧ Below w.heap.size w w' := by
  obtain ⟨k, h⟩ := P a0 a1 w0 w1
  refine (wimplelaw5_CompLoops.calls k a0 a1 true w h).mono ?_
  rintro e w' ⟨rfl, hd⟩
  exact ⟨rfl, hd⟩

/-! ### wimpleref1_places: function 34 -/
mutual
def wimpleref1_places.l0 : Nat → ByteArray → List Int → Int → Option (List Int × Bool)
  | 0, _, _, _ => none
  | k + 1, x0, x4, x5 => if x5 < (x0.size : Int) then (wimpleref1_places.j1 k x0 x4 x5 (decide ((x0.size : Int) ≤ 255))) else (wimpleref1_places.j1 k x0 x4 x5 false)
def wimpleref1_places.j1 : Nat → ByteArray → List Int → Int → Bool → Option (List Int × Bool)
  | 0, _, _, _, _ => none
  | k + 1, x0, x4, x5, x15 => if x15 = true then (if 0 ≤ x5 then (if x5 < (x0.size : Int) then (if x4.length < 17592186044416 then ((some (x4 ++ [x5] : List Int)).bind fun y173 => (if (wrap64 (bt x0 x5)) = 0 then (some (y173, ((wrap64 (x5 + 1)) == (x0.size : Int)))) else (if (wrap64 (bt x0 x5)) > 63 then (some (([] : List Int), false)) else (wimpleref1_places.l0 k x0 y173 (wrap64 ((wrap64 (x5 + 1)) + (wrap64 (bt x0 x5)))))))) else (none)) else (none)) else (none)) else (some (([] : List Int), false))
end
def wimpleref1_places.f (k : Nat) (a0 : ByteArray) : Option (List Int × Bool) := wimpleref1_places.l0 k a0 ([] : List Int) 0
theorem wimpleref1_places.mono_l : ∀ k, (∀ y0 y1 y2, LeO (wimpleref1_places.l0 k y0 y1 y2) (wimpleref1_places.l0 (k + 1) y0 y1 y2)) ∧ (∀ y0 y1 y2 y3, LeO (wimpleref1_places.j1 k y0 y1 y2 y3) (wimpleref1_places.j1 (k + 1) y0 y1 y2 y3))
  | 0 => ⟨fun _ _ _ r h => by simp [wimpleref1_places.l0] at h, fun _ _ _ _ r h => by simp [wimpleref1_places.j1] at h⟩
  | k + 1 => by
    obtain ⟨ih0, ih1⟩ := wimpleref1_places.mono_l k
    refine ⟨?_, ?_⟩
    · intro y0 y1 y2
      unfold wimpleref1_places.l0
      repeat' first
      | (with_reducible exact ih0 _ _ _)
      | (with_reducible exact ih1 _ _ _ _)
      | (with_reducible exact LeO.refl _)
      | (with_reducible exact LeO.none _)
      | (with_reducible refine LeO.ite ?_ ?_)
      | (with_reducible refine LeO.bind ?_ (fun _ => ?_))
      | exact ih0 _ _ _
      | exact ih1 _ _ _ _
      | exact LeO.none _
      | refine LeO.ite ?_ ?_
      | refine LeO.bind ?_ (fun _ => ?_)
    · intro y0 y1 y2 y3
      unfold wimpleref1_places.j1
      repeat' first
      | (with_reducible exact ih0 _ _ _)
      | (with_reducible exact ih1 _ _ _ _)
      | (with_reducible exact LeO.refl _)
      | (with_reducible exact LeO.none _)
      | (with_reducible refine LeO.ite ?_ ?_)
      | (with_reducible refine LeO.bind ?_ (fun _ => ?_))
      | exact ih0 _ _ _
      | exact ih1 _ _ _ _
      | exact LeO.none _
      | refine LeO.ite ?_ ?_
      | refine LeO.bind ?_ (fun _ => ?_)
theorem wimpleref1_places.mono : ∀ a0 k, LeO (wimpleref1_places.f k a0) (wimpleref1_places.f (k + 1) a0) := by
  intro a0 k
  obtain ⟨ih0, ih1⟩ := wimpleref1_places.mono_l k
  unfold wimpleref1_places.f
  repeat' first
      | (with_reducible exact ih0 _ _ _)
      | (with_reducible exact ih1 _ _ _ _)
      | (with_reducible exact LeO.refl _)
      | (with_reducible exact LeO.none _)
      | (with_reducible refine LeO.ite ?_ ?_)
      | (with_reducible refine LeO.bind ?_ (fun _ => ?_))
      | exact ih0 _ _ _
      | exact ih1 _ _ _ _
      | exact LeO.none _
      | refine LeO.ite ?_ ?_
      | refine LeO.bind ?_ (fun _ => ?_)
set_option maxHeartbeats 8000000 in
set_option maxRecDepth 100000 in
theorem wimpleref1_places.calls (k : Nat) (a0 : ByteArray) (r1 : List Int) (r2 : Bool) (w : World) (h : wimpleref1_places.f k a0 = some (r1, r2)) :
    Calls Try.prog 34 #[.string a0] w fun e w' => ∃ v0_ : Value, e = .returned (.tuple #[v0_, .bool r2]) ∧ Kd.R (Kd.int .i64) 3 w' w.heap.size (fun _ => True) v0_ r1 ∧ Below w.heap.size w w' := by
  have HB := Aside0.mk (Below.refl w.heap.size w)
  have H : (wimpleref1_places.l0 k a0 ([] : List Int) 0) = some (r1, r2) := h
  clear h
  have H' := Aside0.mk H
  clear H
  go_enter Try.func34, Try.ntmps34
  go_wp2
  go_loopg [4, 5] k (fun kq v4 v5 w' => ∃ (x4_1 : List Int) (x5_1 : Int), v5 = .int .i64 x5_1 ∧ Aside0 (wimpleref1_places.l0 kq a0 x4_1 x5_1 = some (r1, r2)) ∧ Aside0 (kq ≤ k) ∧ Aside0 (Kd.R (Kd.int .i64) 3 w' w.heap.size (fun _ => True) v4 x4_1) ∧ Aside0 (Below w.heap.size w w'))
  case atStart => exact ⟨(([] : List Int)), (0), (by first | rfl | (simp; done) | (simp [*]; done)), H', ⟨Nat.le_refl _⟩, ⟨by first | exact Kd.R_nil _ _ _ _ _ | exact Kd.N_nil _ _ _ _ _ | exact Kd.V_nil _ _ _ _ _ | exact Kd.Q_nil _ _ _ _ _ | exact Kd.S_nil _ _ _ _ _⟩, ⟨by repeat (first | (with_reducible first | exact HB.out | apply below_alloc | apply pw_below_drewN | apply below_drew1) | exact HB.out)⟩⟩
  case round =>
    clear H'
    obtain ⟨x4_1, x5_1, rfl, HA, HK1, HO_4, HB⟩ := hrel
    cases gk with
    | zero => exact absurd HA.out (by simp [wimpleref1_places.l0])
    | succ k1 =>
      have H := HA.out
      clear HA
      simp only [wimpleref1_places.l0] at H
      have HC2 := Aside0.mk H
      clear H
      go_upto_region 3 with (fail)
      go_cut [15] (fun v15 wc => ∃ (kq : Nat) (x15_1 : Bool), v15 = .bool x15_1 ∧ Aside0 (wimpleref1_places.j1 kq a0 x4_1 x5_1 x15_1 = some (r1, r2)) ∧ Aside0 (kq ≤ k1) ∧ Aside0 (Kd.R (Kd.int .i64) 3 wc w.heap.size (fun _ => True) u4 x4_1) ∧ Aside0 (Below w.heap.size w wc))
      case first =>
        have H := HC2.out
        clear HC2
        by_cases c3 : x5_1 < (a0.size : Int)
        · rw [if_pos c3] at H
          have c3b0 : decide (x5_1 < (a0.size : Int)) = true := decide_eq_true c3
          clear c3
          (first | rw [c3b0] | (simp only [i64_w, i32_w]; rw [c3b0]) | skip)
          have H' := Aside0.mk H
          clear H
          go_wp2
          go_meet
          case rel => exact ⟨_, (decide ((a0.size : Int) ≤ 255)), (by first | rfl | (simp; done) | (simp [*]; done)), H', ⟨by have := HK1.out; first | omega | exact Nat.le_refl _⟩, ⟨by (with_reducible repeat (first | apply Kd.R_alloc | apply Kd.R_drewN | apply Kd.R_drew)); exact HO_4.out⟩, ⟨by repeat (first | (with_reducible first | exact HB.out | apply below_alloc | apply pw_below_drewN | apply below_drew1) | exact HB.out)⟩⟩
        · rw [if_neg c3] at H
          have c3b0 : decide (x5_1 < (a0.size : Int)) = false := decide_eq_false c3
          clear c3
          (first | rw [c3b0] | (simp only [i64_w, i32_w]; rw [c3b0]) | skip)
          have H' := Aside0.mk H
          clear H
          go_wp2
          go_meet
          case rel => exact ⟨_, (false), (by first | rfl | (simp; done) | (simp [*]; done)), H', ⟨by have := HK1.out; first | omega | exact Nat.le_refl _⟩, ⟨by (with_reducible repeat (first | apply Kd.R_alloc | apply Kd.R_drewN | apply Kd.R_drew)); exact HO_4.out⟩, ⟨by repeat (first | (with_reducible first | exact HB.out | apply below_alloc | apply pw_below_drewN | apply below_drew1) | exact HB.out)⟩⟩
      case rest =>
        clear HC2
        try clear p2
        try clear c3
        try clear c3b0
        obtain ⟨kq, x15_1, rfl, HA, HJ1, HO_4, HB⟩ := hcut
        cases kq with
        | zero => exact absurd HA.out (by simp [wimpleref1_places.j1])
        | succ kj1 =>
          have H := HA.out
          clear HA
          simp only [wimpleref1_places.j1] at H
          by_cases c4 : x15_1 = true
          · subst c4
            have H1 : (if 0 ≤ x5_1 then (if x5_1 < (a0.size : Int) then (if x4_1.length < 17592186044416 then ((some (x4_1 ++ [x5_1] : List Int)).bind fun y173 => (if (wrap64 (bt a0 x5_1)) = 0 then (some (y173, ((wrap64 (x5_1 + 1)) == (a0.size : Int)))) else (if (wrap64 (bt a0 x5_1)) > 63 then (some (([] : List Int), false)) else (wimpleref1_places.l0 kj1 a0 y173 (wrap64 ((wrap64 (x5_1 + 1)) + (wrap64 (bt a0 x5_1)))))))) else (none)) else (none)) else (none)) = some (r1, r2) := by rw [if_pos rfl] at H; exact H
            clear H
            have H := H1
            clear H1
            by_cases c5 : 0 ≤ x5_1
            · rw [if_pos c5] at H
              have c5b0 : decide (0 ≤ x5_1) = true := decide_eq_true c5
              clear c5
              by_cases c6 : x5_1 < (a0.size : Int)
              · rw [if_pos c6] at H
                have c6b0 : decide (x5_1 < (a0.size : Int)) = true := decide_eq_true c6
                clear c6
                by_cases c8 : x4_1.length < 17592186044416
                · rw [if_pos c8] at H
                  have LMc8 := Aside0.mk c8
                  clear c8
                  obtain ⟨y173, hy173⟩ : ∃ y_ : List Int, y_ = (x4_1 ++ [x5_1]) := ⟨_, rfl⟩
                  replace H : (if (wrap64 (bt a0 x5_1)) = 0 then (some (y173, ((wrap64 (x5_1 + 1)) == (a0.size : Int)))) else (if (wrap64 (bt a0 x5_1)) > 63 then (some (([] : List Int), false)) else (wimpleref1_places.l0 kj1 a0 y173 (wrap64 ((wrap64 (x5_1 + 1)) + (wrap64 (bt a0 x5_1))))))) = some (r1, r2) := by first | (rw [hy173]; with_reducible exact H) | (have H2_ := (Option.bind_some _ _).symm.trans H; rw [hy173]; with_reducible exact H2_) | (have H2_ := (Option.bind_some _ _).symm.trans H; with_reducible exact H2_) | with_reducible exact H | (rw [hy173]; exact H) | exact H
                  have Ny173 := Aside0.mk hy173
                  clear hy173
                  by_cases c9 : (wrap64 (bt a0 x5_1)) = 0
                  · rw [if_pos c9] at H
                    have c9b0 : ((wrap64 (bt a0 x5_1)) == 0) = true := beq_iff_eq.mpr c9
                    have c9b1 : ((wrap64 (bt a0 x5_1)) != 0) = false := bne_eq_false_iff_eq.mpr c9
                    clear c9
                    simp only [Option.some.injEq, Prod.mk.injEq] at H
                    obtain ⟨rfl, rfl⟩ := H
                    have p7 : 0 ≤ (x5_1 : Int) := of_decide_eq_true (by first | (with_reducible assumption) | assumption)
                    have q7 : x5_1 < (a0.size : Int) := of_decide_eq_true (by first | (with_reducible assumption) | assumption)
                    have hx7 := bt_at a0 x5_1
                    replace p7 := eq_true p7
                    replace q7 := eq_true q7
                    go_wp2_with (first | ((with_reducible refine gate_builtin (b := .append) (xs := #[.tmp 20, .tmp 22]) rfl ?_); (try (refine gate_guard (by rfl) ?_; dsimp only)); at_builtin; refine Kd.R_append (Kd.int .i64) (w0 := w) w.heap.size rfl (.tmp 20) (.tmp 22) 36 3 (.int .i64 0) 8 rfl Try.underlying36 info3 rfl (by decide) (by omega) u4 x4_1 x5_1 [.int .i64 x5_1] (fun _ => True) (fun _ => False) rfl rfl ?aP (fun _ hk => hk.elim) ?aF ?aO ?aB ?aS ?aL ?_; (case aP => exact rfl); (case aB => exact (by repeat (first | (with_reducible first | exact HB.out | apply below_alloc | apply pw_below_drewN | apply below_drew1) | exact HB.out))); (case aF => exact (fun _ _ => trivial)); (case aO => exact (by (with_reducible repeat (first | apply Kd.R_alloc | apply Kd.R_drewN | apply Kd.R_drew)); exact HO_4.out)); (case aS => exact (below_size (by repeat (first | (with_reducible first | exact HB.out | apply below_alloc | apply pw_below_drewN | apply below_drew1) | exact HB.out)))); (case aL => have := LMc8.out; omega); intro v174 w10 ho hb hg hat; rw [← Ny173.out] at ho; have n0_ := Aside0.mk (hb); have n1_ := Aside0.mk (ho); clear HB; clear HO_4; have HB := n0_; have HO175 := n1_; clear n0_ n1_; clear ho hb hg hat))
                    go_ret2
                    exact ⟨_, by first | rfl | (simp [errW_none, errW_some] <;> rfl) | (simp [*, errW_none, errW_some] <;> rfl), by (with_reducible repeat (first | apply Kd.R_alloc | apply Kd.R_drewN | apply Kd.R_drew)); exact HO175.out, by repeat (first | (with_reducible first | exact HB.out | apply below_alloc | apply pw_below_drewN | apply below_drew1) | exact HB.out)⟩
                  · rw [if_neg c9] at H
                    have c9b0 : ((wrap64 (bt a0 x5_1)) == 0) = false := beq_eq_false_iff_ne.mpr c9
                    have c9b1 : ((wrap64 (bt a0 x5_1)) != 0) = true := bne_iff_ne.mpr c9
                    by_cases c11 : (wrap64 (bt a0 x5_1)) > 63
                    · rw [if_pos c11] at H
                      have c11b0 : decide (63 < (wrap64 (bt a0 x5_1))) = true := decide_eq_true c11
                      clear c11
                      simp only [Option.some.injEq, Prod.mk.injEq] at H
                      obtain ⟨rfl, rfl⟩ := H
                      have p7 : 0 ≤ (x5_1 : Int) := of_decide_eq_true (by first | (with_reducible assumption) | assumption)
                      have q7 : x5_1 < (a0.size : Int) := of_decide_eq_true (by first | (with_reducible assumption) | assumption)
                      have hx7 := bt_at a0 x5_1
                      replace p7 := eq_true p7
                      replace q7 := eq_true q7
                      go_wp2_with (first | ((with_reducible refine gate_builtin (b := .append) (xs := #[.tmp 20, .tmp 22]) rfl ?_); (try (refine gate_guard (by rfl) ?_; dsimp only)); at_builtin; refine Kd.R_append (Kd.int .i64) (w0 := w) w.heap.size rfl (.tmp 20) (.tmp 22) 36 3 (.int .i64 0) 8 rfl Try.underlying36 info3 rfl (by decide) (by omega) u4 x4_1 x5_1 [.int .i64 x5_1] (fun _ => True) (fun _ => False) rfl rfl ?aP (fun _ hk => hk.elim) ?aF ?aO ?aB ?aS ?aL ?_; (case aP => exact rfl); (case aB => exact (by repeat (first | (with_reducible first | exact HB.out | apply below_alloc | apply pw_below_drewN | apply below_drew1) | exact HB.out))); (case aF => exact (fun _ _ => trivial)); (case aO => exact (by (with_reducible repeat (first | apply Kd.R_alloc | apply Kd.R_drewN | apply Kd.R_drew)); exact HO_4.out)); (case aS => exact (below_size (by repeat (first | (with_reducible first | exact HB.out | apply below_alloc | apply pw_below_drewN | apply below_drew1) | exact HB.out)))); (case aL => have := LMc8.out; omega); intro v174 w12 ho hb hg hat; rw [← Ny173.out] at ho; have n0_ := Aside0.mk (hb); have n1_ := Aside0.mk (ho); clear HB; clear HO_4; have HB := n0_; have HO175 := n1_; clear n0_ n1_; clear ho hb hg hat))
                      go_ret2
                      exact ⟨_, by first | rfl | (simp [errW_none, errW_some] <;> rfl) | (simp [*, errW_none, errW_some] <;> rfl), by first | exact Kd.R_nil _ _ _ _ _ | exact Kd.N_nil _ _ _ _ _ | exact Kd.V_nil _ _ _ _ _ | exact Kd.Q_nil _ _ _ _ _ | exact Kd.S_nil _ _ _ _ _, by repeat (first | (with_reducible first | exact HB.out | apply below_alloc | apply pw_below_drewN | apply below_drew1) | exact HB.out)⟩
                    · rw [if_neg c11] at H
                      have c11b0 : decide (63 < (wrap64 (bt a0 x5_1))) = false := decide_eq_false c11
                      clear c11
                      have H' := Aside0.mk H
                      clear H
                      have p7 : 0 ≤ (x5_1 : Int) := of_decide_eq_true (by first | (with_reducible assumption) | assumption)
                      have q7 : x5_1 < (a0.size : Int) := of_decide_eq_true (by first | (with_reducible assumption) | assumption)
                      have hx7 := bt_at a0 x5_1
                      replace p7 := eq_true p7
                      replace q7 := eq_true q7
                      go_wp2_with (first | ((with_reducible refine gate_builtin (b := .append) (xs := #[.tmp 20, .tmp 22]) rfl ?_); (try (refine gate_guard (by rfl) ?_; dsimp only)); at_builtin; refine Kd.R_append (Kd.int .i64) (w0 := w) w.heap.size rfl (.tmp 20) (.tmp 22) 36 3 (.int .i64 0) 8 rfl Try.underlying36 info3 rfl (by decide) (by omega) u4 x4_1 x5_1 [.int .i64 x5_1] (fun _ => True) (fun _ => False) rfl rfl ?aP (fun _ hk => hk.elim) ?aF ?aO ?aB ?aS ?aL ?_; (case aP => exact rfl); (case aB => exact (by repeat (first | (with_reducible first | exact HB.out | apply below_alloc | apply pw_below_drewN | apply below_drew1) | exact HB.out))); (case aF => exact (fun _ _ => trivial)); (case aO => exact (by (with_reducible repeat (first | apply Kd.R_alloc | apply Kd.R_drewN | apply Kd.R_drew)); exact HO_4.out)); (case aS => exact (below_size (by repeat (first | (with_reducible first | exact HB.out | apply below_alloc | apply pw_below_drewN | apply below_drew1) | exact HB.out)))); (case aL => have := LMc8.out; omega); intro v174 w13 ho hb hg hat; rw [← Ny173.out] at ho; have n0_ := Aside0.mk (hb); have n1_ := Aside0.mk (ho); clear HB; clear HO_4; have HB := n0_; have HO175 := n1_; clear n0_ n1_; clear ho hb hg hat))
                      go_roundg kj1
                      case measure => have := HK1.out; have := HJ1.out; omega
                      case rel => exact ⟨(y173), (wrap64 ((wrap64 (x5_1 + 1)) + (wrap64 (bt a0 x5_1)))), (by first | rfl | (simp; done) | (simp [*]; done)), H', ⟨by have := HK1.out; have := HJ1.out; omega⟩, ⟨by (with_reducible repeat (first | apply Kd.R_alloc | apply Kd.R_drewN | apply Kd.R_drew)); exact HO175.out⟩, ⟨by repeat (first | (with_reducible first | exact HB.out | apply below_alloc | apply pw_below_drewN | apply below_drew1) | exact HB.out)⟩⟩
                · rw [if_neg c8] at H
                  exact absurd H (by simp)
              · rw [if_neg c6] at H
                exact absurd H (by simp)
            · rw [if_neg c5] at H
              exact absurd H (by simp)
          · replace c4 := Bool.eq_false_iff.mpr c4
            subst c4
            have H1 : (some (([] : List Int), false)) = some (r1, r2) := by rw [if_neg (show ¬ (false = true) by decide)] at H; exact H
            clear H
            have H := H1
            clear H1
            simp only [Option.some.injEq, Prod.mk.injEq] at H
            obtain ⟨rfl, rfl⟩ := H
            go_wp2
            go_ret2
            exact ⟨_, by first | rfl | (simp [errW_none, errW_some] <;> rfl) | (simp [*, errW_none, errW_some] <;> rfl), by first | exact Kd.R_nil _ _ _ _ _ | exact Kd.N_nil _ _ _ _ _ | exact Kd.V_nil _ _ _ _ _ | exact Kd.Q_nil _ _ _ _ _ | exact Kd.S_nil _ _ _ _ _, by repeat (first | (with_reducible first | exact HB.out | apply below_alloc | apply pw_below_drewN | apply below_drew1) | exact HB.out)⟩

/-! ### wimpleref1_May: function 21 -/
def wimpleref1_May.f (a0 : ByteArray) : Option (Bool) := some (Go.Proofs.Ytepglkgpgoifkaa.Nm.nameB a0)
set_option maxHeartbeats 8000000 in
set_option maxRecDepth 100000 in
theorem wimpleref1_May.calls (a0 : ByteArray) (r : Bool) (w : World) (h : wimpleref1_May.f a0 = some r) :
    Calls Try.prog 21 #[.string a0] w fun e w' => e = .returned (.bool r) ∧ Below w.heap.size w w' := by
  unfold wimpleref1_May.f at h
  simp only [Option.some.injEq] at h
  subst h
  exact Go.Proofs.Ytepglkgpgoifkaa.Nm.rmay a0 w

end Go.Proofs.Ytepglkgpgoifkaa.PCl
