-- Written by a program of this session out of the translation (the kit's print, changed: ppatch.py); not the kit's own print.
import Derived.Test.YtepglkgpgoifkaaPClx0
import Derived.Test.YtepglkgpgoifkaaPClx1
import Derived.Test.YtepglkgpgoifkaaPClx2
import Derived.Test.YtepglkgpgoifkaaPClx3
namespace Go.Proofs.Ytepglkgpgoifkaa.PCl
open Go.RowKit Go.Proofs.YtepglkgpgoifkaaW.PrintWords Go.Proofs.YtepglkgpgoifkaaW.PrintLast Go.Proofs.YtepglkgpgoifkaaW.PrintMore
attribute [local go_sem] max2_int min2_int max_two min_two max_three min_three max_four min_four   -- for this text's walks alone
set_option linter.unusedVariables false
set_option linter.unusedSimpArgs false

/-! ### wimplelaw5_CompData: function 8 -/
def wimplelaw5_CompData.f (k : Nat) (a0 : ByteArray) (a1 : Int) (a2 : Int) : Option (Bool) := (wimplelaw5_awake.f).bind fun t176 => (if t176 = true then ((wimpleref1_May.f a0).bind fun t177 => (if t177 = true then (if a0.size + 1 ≤ 9223372036854775807 then ((some (([(a1) % 256] : List Int) : List Int)).bind fun y178 => (if (a0 ++ (⟨#[0]⟩ : ByteArray)).size + (strOfNums y178).size ≤ 9223372036854775807 then ((wimplelaw5_pointer.f 0).bind fun t181 => (if ((a0 ++ (⟨#[0]⟩ : ByteArray)) ++ (strOfNums y178)).size + t181.size ≤ 9223372036854775807 then ((comp_Data.f k (((a0 ++ (⟨#[0]⟩ : ByteArray)) ++ (strOfNums y178)) ++ t181) (a0.size : Int) 4 15).bind fun bt182 => ((comp_Data.f k (((a0 ++ (⟨#[0]⟩ : ByteArray)) ++ (strOfNums y178)) ++ t181) (wrap64 ((a0.size : Int) + 2)) 2 2).bind fun bt184 => ((comp_Data.f k (((a0 ++ (⟨#[0]⟩ : ByteArray)) ++ (strOfNums y178)) ++ t181) (a0.size : Int) 4 999).bind fun bt186 => ((comp_Data.f k (((a0 ++ (⟨#[0]⟩ : ByteArray)) ++ (strOfNums y178)) ++ t181) (a0.size : Int) 3 15).bind fun bt188 => (if (((a0 ++ (⟨#[0]⟩ : ByteArray)) ++ (strOfNums y178)) ++ t181).size + 1 ≤ 9223372036854775807 then ((comp_Data.f k ((((a0 ++ (⟨#[0]⟩ : ByteArray)) ++ (strOfNums y178)) ++ t181) ++ (⟨#[122]⟩ : ByteArray)) (wrap64 ((a0.size : Int) + 2)) 3 5).bind fun bt190 => ((comp_Data.f k (((a0 ++ (⟨#[0]⟩ : ByteArray)) ++ (strOfNums y178)) ++ t181) (a0.size : Int) (wrap64 (5 + (Go.bits .and .i64 a2 63))) 999).bind fun bt192 => ((comp_Data.f k (((a0 ++ (⟨#[0]⟩ : ByteArray)) ++ (strOfNums y178)) ++ t181) 0 (a0.size : Int) 1).bind fun bt194 => ((wimplelaw0_Num.f bt182.2).bind fun t196 => (if t196 = 0 then ((some (([(a1) % 256] : List Int) : List Int)).bind fun y197 => (if 1 + (strOfNums y197).size ≤ 9223372036854775807 then (if ((⟨#[0]⟩ : ByteArray) ++ (strOfNums y197)).size + a0.size ≤ 9223372036854775807 then (if bt182.1.toList = (((⟨#[0]⟩ : ByteArray) ++ (strOfNums y197)) ++ a0).toList then ((wimplelaw0_Num.f bt184.2).bind fun t200 => (if t200 = 0 then (if bt184.1.toList = a0.toList then ((wimplelaw0_Num.f bt186.2).bind fun t201 => (if t201 = 0 then (if 0 ≤ (a0.size : Int) then (if (a0.size : Int) ≤ ((((a0 ++ (⟨#[0]⟩ : ByteArray)) ++ (strOfNums y178)) ++ t181).size : Int) then (if bt186.1.toList = ((((a0 ++ (⟨#[0]⟩ : ByteArray)) ++ (strOfNums y178)) ++ t181).extract ((a0.size : Int) : Int).toNat (((a0 ++ (⟨#[0]⟩ : ByteArray)) ++ (strOfNums y178)) ++ t181).size).toList then ((wimplelaw0_Num.f bt188.2).bind fun t202 => (if t202 = 500 then ((wimplelaw0_Num.f bt190.2).bind fun t203 => (if t203 = 500 then ((wimplelaw0_Num.f bt192.2).bind fun t204 => (if t204 = 500 then ((wimplelaw0_Num.f bt194.2).bind fun t205 => (some ((t205 == 0) == ((a0.size : Int) == 4)))) else (none))) else (none))) else (none))) else (none)) else (none)) else (none)) else (none))) else (none)) else (none))) else (none)) else (none)) else (none))) else (none)))))) else (none)))))) else (none))) else (none))) else (none)) else (some true))) else (none))
theorem wimplelaw5_CompData.mono : ∀ a0 a1 a2 k, LeO (wimplelaw5_CompData.f k a0 a1 a2) (wimplelaw5_CompData.f (k + 1) a0 a1 a2) := by
  intro a0 a1 a2 k
  unfold wimplelaw5_CompData.f
  repeat' first
      | (with_reducible exact comp_Data.mono _ _ _ _ _)
      | (with_reducible exact LeO.refl _)
      | (with_reducible exact LeO.none _)
      | (with_reducible refine LeO.ite ?_ ?_)
      | (with_reducible refine LeO.bind ?_ (fun _ => ?_))
      | exact comp_Data.mono _ _ _ _ _
      | exact LeO.none _
      | refine LeO.ite ?_ ?_
      | refine LeO.bind ?_ (fun _ => ?_)
def wimplelaw5_CompData.T5 : Bool × List (List Nat × List Nat) := (true, [([], []), ([0], [0]), ([], []), ([2], [2]), ([3], [3]), ([4], [4]), ([1, 5], [1, 5]), ([], []), ([6, 7], [6, 7]), ([8, 7, 0, 1, 2, 3, 4, 5, 6, 7, 8], [8])])
def wimplelaw5_CompData.B5 : List Nat := [0, 1, 0, 4, 12, 28, 63, 0, 255, 511]
theorem wimplelaw5_CompData.tab5 : rtab .any (opsOf Try.f8 5) = wimplelaw5_CompData.T5 := by kernel_rfl
theorem wimplelaw5_CompData.bits5 : waitsOk wimplelaw5_CompData.T5.2 wimplelaw5_CompData.B5 = true := by kernel_rfl
set_option maxHeartbeats 8000000 in
set_option maxRecDepth 100000 in
theorem wimplelaw5_CompData.calls (k : Nat) (a0 : ByteArray) (a1 : Int) (a2 : Int) (r : Bool) (w : World) (h : wimplelaw5_CompData.f k a0 a1 a2 = some r) :
    Calls Try.prog 8 #[.string a0, .int .i64 a1, .int .i64 a2] w fun e w' => e = .returned (.bool r) ∧ Below w.heap.size w w' := by
  have HB := Aside0.mk (Below.refl w.heap.size w)
  have H : ((wimplelaw5_awake.f).bind fun t176 => (if t176 = true then ((wimpleref1_May.f a0).bind fun t177 => (if t177 = true then (if a0.size + 1 ≤ 9223372036854775807 then ((some (([(a1) % 256] : List Int) : List Int)).bind fun y178 => (if (a0 ++ (⟨#[0]⟩ : ByteArray)).size + (strOfNums y178).size ≤ 9223372036854775807 then ((wimplelaw5_pointer.f 0).bind fun t181 => (if ((a0 ++ (⟨#[0]⟩ : ByteArray)) ++ (strOfNums y178)).size + t181.size ≤ 9223372036854775807 then ((comp_Data.f k (((a0 ++ (⟨#[0]⟩ : ByteArray)) ++ (strOfNums y178)) ++ t181) (a0.size : Int) 4 15).bind fun bt182 => ((comp_Data.f k (((a0 ++ (⟨#[0]⟩ : ByteArray)) ++ (strOfNums y178)) ++ t181) (wrap64 ((a0.size : Int) + 2)) 2 2).bind fun bt184 => ((comp_Data.f k (((a0 ++ (⟨#[0]⟩ : ByteArray)) ++ (strOfNums y178)) ++ t181) (a0.size : Int) 4 999).bind fun bt186 => ((comp_Data.f k (((a0 ++ (⟨#[0]⟩ : ByteArray)) ++ (strOfNums y178)) ++ t181) (a0.size : Int) 3 15).bind fun bt188 => (if (((a0 ++ (⟨#[0]⟩ : ByteArray)) ++ (strOfNums y178)) ++ t181).size + 1 ≤ 9223372036854775807 then ((comp_Data.f k ((((a0 ++ (⟨#[0]⟩ : ByteArray)) ++ (strOfNums y178)) ++ t181) ++ (⟨#[122]⟩ : ByteArray)) (wrap64 ((a0.size : Int) + 2)) 3 5).bind fun bt190 => ((comp_Data.f k (((a0 ++ (⟨#[0]⟩ : ByteArray)) ++ (strOfNums y178)) ++ t181) (a0.size : Int) (wrap64 (5 + (Go.bits .and .i64 a2 63))) 999).bind fun bt192 => ((comp_Data.f k (((a0 ++ (⟨#[0]⟩ : ByteArray)) ++ (strOfNums y178)) ++ t181) 0 (a0.size : Int) 1).bind fun bt194 => ((wimplelaw0_Num.f bt182.2).bind fun t196 => (if t196 = 0 then ((some (([(a1) % 256] : List Int) : List Int)).bind fun y197 => (if 1 + (strOfNums y197).size ≤ 9223372036854775807 then (if ((⟨#[0]⟩ : ByteArray) ++ (strOfNums y197)).size + a0.size ≤ 9223372036854775807 then (if bt182.1.toList = (((⟨#[0]⟩ : ByteArray) ++ (strOfNums y197)) ++ a0).toList then ((wimplelaw0_Num.f bt184.2).bind fun t200 => (if t200 = 0 then (if bt184.1.toList = a0.toList then ((wimplelaw0_Num.f bt186.2).bind fun t201 => (if t201 = 0 then (if 0 ≤ (a0.size : Int) then (if (a0.size : Int) ≤ ((((a0 ++ (⟨#[0]⟩ : ByteArray)) ++ (strOfNums y178)) ++ t181).size : Int) then (if bt186.1.toList = ((((a0 ++ (⟨#[0]⟩ : ByteArray)) ++ (strOfNums y178)) ++ t181).extract ((a0.size : Int) : Int).toNat (((a0 ++ (⟨#[0]⟩ : ByteArray)) ++ (strOfNums y178)) ++ t181).size).toList then ((wimplelaw0_Num.f bt188.2).bind fun t202 => (if t202 = 500 then ((wimplelaw0_Num.f bt190.2).bind fun t203 => (if t203 = 500 then ((wimplelaw0_Num.f bt192.2).bind fun t204 => (if t204 = 500 then ((wimplelaw0_Num.f bt194.2).bind fun t205 => (some ((t205 == 0) == ((a0.size : Int) == 4)))) else (none))) else (none))) else (none))) else (none)) else (none)) else (none)) else (none))) else (none)) else (none))) else (none)) else (none)) else (none))) else (none)))))) else (none)))))) else (none))) else (none))) else (none)) else (some true))) else (none))) = some r := h
  clear h
  replace H := Option.bind_eq_some_iff.mp H
  obtain ⟨t176, A40, H⟩ := H
  replace H : (if t176 = true then ((wimpleref1_May.f a0).bind fun t177 => (if t177 = true then (if a0.size + 1 ≤ 9223372036854775807 then ((some (([(a1) % 256] : List Int) : List Int)).bind fun y178 => (if (a0 ++ (⟨#[0]⟩ : ByteArray)).size + (strOfNums y178).size ≤ 9223372036854775807 then ((wimplelaw5_pointer.f 0).bind fun t181 => (if ((a0 ++ (⟨#[0]⟩ : ByteArray)) ++ (strOfNums y178)).size + t181.size ≤ 9223372036854775807 then ((comp_Data.f k (((a0 ++ (⟨#[0]⟩ : ByteArray)) ++ (strOfNums y178)) ++ t181) (a0.size : Int) 4 15).bind fun bt182 => ((comp_Data.f k (((a0 ++ (⟨#[0]⟩ : ByteArray)) ++ (strOfNums y178)) ++ t181) (wrap64 ((a0.size : Int) + 2)) 2 2).bind fun bt184 => ((comp_Data.f k (((a0 ++ (⟨#[0]⟩ : ByteArray)) ++ (strOfNums y178)) ++ t181) (a0.size : Int) 4 999).bind fun bt186 => ((comp_Data.f k (((a0 ++ (⟨#[0]⟩ : ByteArray)) ++ (strOfNums y178)) ++ t181) (a0.size : Int) 3 15).bind fun bt188 => (if (((a0 ++ (⟨#[0]⟩ : ByteArray)) ++ (strOfNums y178)) ++ t181).size + 1 ≤ 9223372036854775807 then ((comp_Data.f k ((((a0 ++ (⟨#[0]⟩ : ByteArray)) ++ (strOfNums y178)) ++ t181) ++ (⟨#[122]⟩ : ByteArray)) (wrap64 ((a0.size : Int) + 2)) 3 5).bind fun bt190 => ((comp_Data.f k (((a0 ++ (⟨#[0]⟩ : ByteArray)) ++ (strOfNums y178)) ++ t181) (a0.size : Int) (wrap64 (5 + (Go.bits .and .i64 a2 63))) 999).bind fun bt192 => ((comp_Data.f k (((a0 ++ (⟨#[0]⟩ : ByteArray)) ++ (strOfNums y178)) ++ t181) 0 (a0.size : Int) 1).bind fun bt194 => ((wimplelaw0_Num.f bt182.2).bind fun t196 => (if t196 = 0 then ((some (([(a1) % 256] : List Int) : List Int)).bind fun y197 => (if 1 + (strOfNums y197).size ≤ 9223372036854775807 then (if ((⟨#[0]⟩ : ByteArray) ++ (strOfNums y197)).size + a0.size ≤ 9223372036854775807 then (if bt182.1.toList = (((⟨#[0]⟩ : ByteArray) ++ (strOfNums y197)) ++ a0).toList then ((wimplelaw0_Num.f bt184.2).bind fun t200 => (if t200 = 0 then (if bt184.1.toList = a0.toList then ((wimplelaw0_Num.f bt186.2).bind fun t201 => (if t201 = 0 then (if 0 ≤ (a0.size : Int) then (if (a0.size : Int) ≤ ((((a0 ++ (⟨#[0]⟩ : ByteArray)) ++ (strOfNums y178)) ++ t181).size : Int) then (if bt186.1.toList = ((((a0 ++ (⟨#[0]⟩ : ByteArray)) ++ (strOfNums y178)) ++ t181).extract ((a0.size : Int) : Int).toNat (((a0 ++ (⟨#[0]⟩ : ByteArray)) ++ (strOfNums y178)) ++ t181).size).toList then ((wimplelaw0_Num.f bt188.2).bind fun t202 => (if t202 = 500 then ((wimplelaw0_Num.f bt190.2).bind fun t203 => (if t203 = 500 then ((wimplelaw0_Num.f bt192.2).bind fun t204 => (if t204 = 500 then ((wimplelaw0_Num.f bt194.2).bind fun t205 => (some ((t205 == 0) == ((a0.size : Int) == 4)))) else (none))) else (none))) else (none))) else (none)) else (none)) else (none)) else (none))) else (none)) else (none))) else (none)) else (none)) else (none))) else (none)))))) else (none)))))) else (none))) else (none))) else (none)) else (some true))) else (none)) = some r := H
  have A4 := Aside0.mk A40
  clear A40
  by_cases c5 : t176 = true
  · subst c5
    have H1 : ((wimpleref1_May.f a0).bind fun t177 => (if t177 = true then (if a0.size + 1 ≤ 9223372036854775807 then ((some (([(a1) % 256] : List Int) : List Int)).bind fun y178 => (if (a0 ++ (⟨#[0]⟩ : ByteArray)).size + (strOfNums y178).size ≤ 9223372036854775807 then ((wimplelaw5_pointer.f 0).bind fun t181 => (if ((a0 ++ (⟨#[0]⟩ : ByteArray)) ++ (strOfNums y178)).size + t181.size ≤ 9223372036854775807 then ((comp_Data.f k (((a0 ++ (⟨#[0]⟩ : ByteArray)) ++ (strOfNums y178)) ++ t181) (a0.size : Int) 4 15).bind fun bt182 => ((comp_Data.f k (((a0 ++ (⟨#[0]⟩ : ByteArray)) ++ (strOfNums y178)) ++ t181) (wrap64 ((a0.size : Int) + 2)) 2 2).bind fun bt184 => ((comp_Data.f k (((a0 ++ (⟨#[0]⟩ : ByteArray)) ++ (strOfNums y178)) ++ t181) (a0.size : Int) 4 999).bind fun bt186 => ((comp_Data.f k (((a0 ++ (⟨#[0]⟩ : ByteArray)) ++ (strOfNums y178)) ++ t181) (a0.size : Int) 3 15).bind fun bt188 => (if (((a0 ++ (⟨#[0]⟩ : ByteArray)) ++ (strOfNums y178)) ++ t181).size + 1 ≤ 9223372036854775807 then ((comp_Data.f k ((((a0 ++ (⟨#[0]⟩ : ByteArray)) ++ (strOfNums y178)) ++ t181) ++ (⟨#[122]⟩ : ByteArray)) (wrap64 ((a0.size : Int) + 2)) 3 5).bind fun bt190 => ((comp_Data.f k (((a0 ++ (⟨#[0]⟩ : ByteArray)) ++ (strOfNums y178)) ++ t181) (a0.size : Int) (wrap64 (5 + (Go.bits .and .i64 a2 63))) 999).bind fun bt192 => ((comp_Data.f k (((a0 ++ (⟨#[0]⟩ : ByteArray)) ++ (strOfNums y178)) ++ t181) 0 (a0.size : Int) 1).bind fun bt194 => ((wimplelaw0_Num.f bt182.2).bind fun t196 => (if t196 = 0 then ((some (([(a1) % 256] : List Int) : List Int)).bind fun y197 => (if 1 + (strOfNums y197).size ≤ 9223372036854775807 then (if ((⟨#[0]⟩ : ByteArray) ++ (strOfNums y197)).size + a0.size ≤ 9223372036854775807 then (if bt182.1.toList = (((⟨#[0]⟩ : ByteArray) ++ (strOfNums y197)) ++ a0).toList then ((wimplelaw0_Num.f bt184.2).bind fun t200 => (if t200 = 0 then (if bt184.1.toList = a0.toList then ((wimplelaw0_Num.f bt186.2).bind fun t201 => (if t201 = 0 then (if 0 ≤ (a0.size : Int) then (if (a0.size : Int) ≤ ((((a0 ++ (⟨#[0]⟩ : ByteArray)) ++ (strOfNums y178)) ++ t181).size : Int) then (if bt186.1.toList = ((((a0 ++ (⟨#[0]⟩ : ByteArray)) ++ (strOfNums y178)) ++ t181).extract ((a0.size : Int) : Int).toNat (((a0 ++ (⟨#[0]⟩ : ByteArray)) ++ (strOfNums y178)) ++ t181).size).toList then ((wimplelaw0_Num.f bt188.2).bind fun t202 => (if t202 = 500 then ((wimplelaw0_Num.f bt190.2).bind fun t203 => (if t203 = 500 then ((wimplelaw0_Num.f bt192.2).bind fun t204 => (if t204 = 500 then ((wimplelaw0_Num.f bt194.2).bind fun t205 => (some ((t205 == 0) == ((a0.size : Int) == 4)))) else (none))) else (none))) else (none))) else (none)) else (none)) else (none)) else (none))) else (none)) else (none))) else (none)) else (none)) else (none))) else (none)))))) else (none)))))) else (none))) else (none))) else (none)) else (some true))) = some r := by rw [if_pos rfl] at H; exact H
    clear H
    have H := H1
    clear H1
    replace H := Option.bind_eq_some_iff.mp H
    obtain ⟨t177, A60, H⟩ := H
    replace H : (if t177 = true then (if a0.size + 1 ≤ 9223372036854775807 then ((some (([(a1) % 256] : List Int) : List Int)).bind fun y178 => (if (a0 ++ (⟨#[0]⟩ : ByteArray)).size + (strOfNums y178).size ≤ 9223372036854775807 then ((wimplelaw5_pointer.f 0).bind fun t181 => (if ((a0 ++ (⟨#[0]⟩ : ByteArray)) ++ (strOfNums y178)).size + t181.size ≤ 9223372036854775807 then ((comp_Data.f k (((a0 ++ (⟨#[0]⟩ : ByteArray)) ++ (strOfNums y178)) ++ t181) (a0.size : Int) 4 15).bind fun bt182 => ((comp_Data.f k (((a0 ++ (⟨#[0]⟩ : ByteArray)) ++ (strOfNums y178)) ++ t181) (wrap64 ((a0.size : Int) + 2)) 2 2).bind fun bt184 => ((comp_Data.f k (((a0 ++ (⟨#[0]⟩ : ByteArray)) ++ (strOfNums y178)) ++ t181) (a0.size : Int) 4 999).bind fun bt186 => ((comp_Data.f k (((a0 ++ (⟨#[0]⟩ : ByteArray)) ++ (strOfNums y178)) ++ t181) (a0.size : Int) 3 15).bind fun bt188 => (if (((a0 ++ (⟨#[0]⟩ : ByteArray)) ++ (strOfNums y178)) ++ t181).size + 1 ≤ 9223372036854775807 then ((comp_Data.f k ((((a0 ++ (⟨#[0]⟩ : ByteArray)) ++ (strOfNums y178)) ++ t181) ++ (⟨#[122]⟩ : ByteArray)) (wrap64 ((a0.size : Int) + 2)) 3 5).bind fun bt190 => ((comp_Data.f k (((a0 ++ (⟨#[0]⟩ : ByteArray)) ++ (strOfNums y178)) ++ t181) (a0.size : Int) (wrap64 (5 + (Go.bits .and .i64 a2 63))) 999).bind fun bt192 => ((comp_Data.f k (((a0 ++ (⟨#[0]⟩ : ByteArray)) ++ (strOfNums y178)) ++ t181) 0 (a0.size : Int) 1).bind fun bt194 => ((wimplelaw0_Num.f bt182.2).bind fun t196 => (if t196 = 0 then ((some (([(a1) % 256] : List Int) : List Int)).bind fun y197 => (if 1 + (strOfNums y197).size ≤ 9223372036854775807 then (if ((⟨#[0]⟩ : ByteArray) ++ (strOfNums y197)).size + a0.size ≤ 9223372036854775807 then (if bt182.1.toList = (((⟨#[0]⟩ : ByteArray) ++ (strOfNums y197)) ++ a0).toList then ((wimplelaw0_Num.f bt184.2).bind fun t200 => (if t200 = 0 then (if bt184.1.toList = a0.toList then ((wimplelaw0_Num.f bt186.2).bind fun t201 => (if t201 = 0 then (if 0 ≤ (a0.size : Int) then (if (a0.size : Int) ≤ ((((a0 ++ (⟨#[0]⟩ : ByteArray)) ++ (strOfNums y178)) ++ t181).size : Int) then (if bt186.1.toList = ((((a0 ++ (⟨#[0]⟩ : ByteArray)) ++ (strOfNums y178)) ++ t181).extract ((a0.size : Int) : Int).toNat (((a0 ++ (⟨#[0]⟩ : ByteArray)) ++ (strOfNums y178)) ++ t181).size).toList then ((wimplelaw0_Num.f bt188.2).bind fun t202 => (if t202 = 500 then ((wimplelaw0_Num.f bt190.2).bind fun t203 => (if t203 = 500 then ((wimplelaw0_Num.f bt192.2).bind fun t204 => (if t204 = 500 then ((wimplelaw0_Num.f bt194.2).bind fun t205 => (some ((t205 == 0) == ((a0.size : Int) == 4)))) else (none))) else (none))) else (none))) else (none)) else (none)) else (none)) else (none))) else (none)) else (none))) else (none)) else (none)) else (none))) else (none)))))) else (none)))))) else (none))) else (none))) else (none)) else (some true)) = some r := H
    have A6 := Aside0.mk A60
    clear A60
    by_cases c7 : t177 = true
    · subst c7
      have H1 : (if a0.size + 1 ≤ 9223372036854775807 then ((some (([(a1) % 256] : List Int) : List Int)).bind fun y178 => (if (a0 ++ (⟨#[0]⟩ : ByteArray)).size + (strOfNums y178).size ≤ 9223372036854775807 then ((wimplelaw5_pointer.f 0).bind fun t181 => (if ((a0 ++ (⟨#[0]⟩ : ByteArray)) ++ (strOfNums y178)).size + t181.size ≤ 9223372036854775807 then ((comp_Data.f k (((a0 ++ (⟨#[0]⟩ : ByteArray)) ++ (strOfNums y178)) ++ t181) (a0.size : Int) 4 15).bind fun bt182 => ((comp_Data.f k (((a0 ++ (⟨#[0]⟩ : ByteArray)) ++ (strOfNums y178)) ++ t181) (wrap64 ((a0.size : Int) + 2)) 2 2).bind fun bt184 => ((comp_Data.f k (((a0 ++ (⟨#[0]⟩ : ByteArray)) ++ (strOfNums y178)) ++ t181) (a0.size : Int) 4 999).bind fun bt186 => ((comp_Data.f k (((a0 ++ (⟨#[0]⟩ : ByteArray)) ++ (strOfNums y178)) ++ t181) (a0.size : Int) 3 15).bind fun bt188 => (if (((a0 ++ (⟨#[0]⟩ : ByteArray)) ++ (strOfNums y178)) ++ t181).size + 1 ≤ 9223372036854775807 then ((comp_Data.f k ((((a0 ++ (⟨#[0]⟩ : ByteArray)) ++ (strOfNums y178)) ++ t181) ++ (⟨#[122]⟩ : ByteArray)) (wrap64 ((a0.size : Int) + 2)) 3 5).bind fun bt190 => ((comp_Data.f k (((a0 ++ (⟨#[0]⟩ : ByteArray)) ++ (strOfNums y178)) ++ t181) (a0.size : Int) (wrap64 (5 + (Go.bits .and .i64 a2 63))) 999).bind fun bt192 => ((comp_Data.f k (((a0 ++ (⟨#[0]⟩ : ByteArray)) ++ (strOfNums y178)) ++ t181) 0 (a0.size : Int) 1).bind fun bt194 => ((wimplelaw0_Num.f bt182.2).bind fun t196 => (if t196 = 0 then ((some (([(a1) % 256] : List Int) : List Int)).bind fun y197 => (if 1 + (strOfNums y197).size ≤ 9223372036854775807 then (if ((⟨#[0]⟩ : ByteArray) ++ (strOfNums y197)).size + a0.size ≤ 9223372036854775807 then (if bt182.1.toList = (((⟨#[0]⟩ : ByteArray) ++ (strOfNums y197)) ++ a0).toList then ((wimplelaw0_Num.f bt184.2).bind fun t200 => (if t200 = 0 then (if bt184.1.toList = a0.toList then ((wimplelaw0_Num.f bt186.2).bind fun t201 => (if t201 = 0 then (if 0 ≤ (a0.size : Int) then (if (a0.size : Int) ≤ ((((a0 ++ (⟨#[0]⟩ : ByteArray)) ++ (strOfNums y178)) ++ t181).size : Int) then (if bt186.1.toList = ((((a0 ++ (⟨#[0]⟩ : ByteArray)) ++ (strOfNums y178)) ++ t181).extract ((a0.size : Int) : Int).toNat (((a0 ++ (⟨#[0]⟩ : ByteArray)) ++ (strOfNums y178)) ++ t181).size).toList then ((wimplelaw0_Num.f bt188.2).bind fun t202 => (if t202 = 500 then ((wimplelaw0_Num.f bt190.2).bind fun t203 => (if t203 = 500 then ((wimplelaw0_Num.f bt192.2).bind fun t204 => (if t204 = 500 then ((wimplelaw0_Num.f bt194.2).bind fun t205 => (some ((t205 == 0) == ((a0.size : Int) == 4)))) else (none))) else (none))) else (none))) else (none)) else (none)) else (none)) else (none))) else (none)) else (none))) else (none)) else (none)) else (none))) else (none)))))) else (none)))))) else (none))) else (none))) else (none)) = some r := by rw [if_pos rfl] at H; exact H
      clear H
      have H := H1
      clear H1
      by_cases c8 : a0.size + 1 ≤ 9223372036854775807
      · rw [if_pos c8] at H
        have c8b0 := eq_true c8
        have c8b1 : decide (a0.size + 1 ≤ 9223372036854775807) = true := decide_eq_true c8
        try have c8b2 : (9223372036854775807 < a0.size + 1) = False := eq_false (Nat.not_lt.2 c8)
        obtain ⟨y178, hy178⟩ : ∃ y_ : List Int, y_ = (([(a1) % 256] : List Int)) := ⟨_, rfl⟩
        replace H : (if (a0 ++ (⟨#[0]⟩ : ByteArray)).size + (strOfNums y178).size ≤ 9223372036854775807 then ((wimplelaw5_pointer.f 0).bind fun t181 => (if ((a0 ++ (⟨#[0]⟩ : ByteArray)) ++ (strOfNums y178)).size + t181.size ≤ 9223372036854775807 then ((comp_Data.f k (((a0 ++ (⟨#[0]⟩ : ByteArray)) ++ (strOfNums y178)) ++ t181) (a0.size : Int) 4 15).bind fun bt182 => ((comp_Data.f k (((a0 ++ (⟨#[0]⟩ : ByteArray)) ++ (strOfNums y178)) ++ t181) (wrap64 ((a0.size : Int) + 2)) 2 2).bind fun bt184 => ((comp_Data.f k (((a0 ++ (⟨#[0]⟩ : ByteArray)) ++ (strOfNums y178)) ++ t181) (a0.size : Int) 4 999).bind fun bt186 => ((comp_Data.f k (((a0 ++ (⟨#[0]⟩ : ByteArray)) ++ (strOfNums y178)) ++ t181) (a0.size : Int) 3 15).bind fun bt188 => (if (((a0 ++ (⟨#[0]⟩ : ByteArray)) ++ (strOfNums y178)) ++ t181).size + 1 ≤ 9223372036854775807 then ((comp_Data.f k ((((a0 ++ (⟨#[0]⟩ : ByteArray)) ++ (strOfNums y178)) ++ t181) ++ (⟨#[122]⟩ : ByteArray)) (wrap64 ((a0.size : Int) + 2)) 3 5).bind fun bt190 => ((comp_Data.f k (((a0 ++ (⟨#[0]⟩ : ByteArray)) ++ (strOfNums y178)) ++ t181) (a0.size : Int) (wrap64 (5 + (Go.bits .and .i64 a2 63))) 999).bind fun bt192 => ((comp_Data.f k (((a0 ++ (⟨#[0]⟩ : ByteArray)) ++ (strOfNums y178)) ++ t181) 0 (a0.size : Int) 1).bind fun bt194 => ((wimplelaw0_Num.f bt182.2).bind fun t196 => (if t196 = 0 then ((some (([(a1) % 256] : List Int) : List Int)).bind fun y197 => (if 1 + (strOfNums y197).size ≤ 9223372036854775807 then (if ((⟨#[0]⟩ : ByteArray) ++ (strOfNums y197)).size + a0.size ≤ 9223372036854775807 then (if bt182.1.toList = (((⟨#[0]⟩ : ByteArray) ++ (strOfNums y197)) ++ a0).toList then ((wimplelaw0_Num.f bt184.2).bind fun t200 => (if t200 = 0 then (if bt184.1.toList = a0.toList then ((wimplelaw0_Num.f bt186.2).bind fun t201 => (if t201 = 0 then (if 0 ≤ (a0.size : Int) then (if (a0.size : Int) ≤ ((((a0 ++ (⟨#[0]⟩ : ByteArray)) ++ (strOfNums y178)) ++ t181).size : Int) then (if bt186.1.toList = ((((a0 ++ (⟨#[0]⟩ : ByteArray)) ++ (strOfNums y178)) ++ t181).extract ((a0.size : Int) : Int).toNat (((a0 ++ (⟨#[0]⟩ : ByteArray)) ++ (strOfNums y178)) ++ t181).size).toList then ((wimplelaw0_Num.f bt188.2).bind fun t202 => (if t202 = 500 then ((wimplelaw0_Num.f bt190.2).bind fun t203 => (if t203 = 500 then ((wimplelaw0_Num.f bt192.2).bind fun t204 => (if t204 = 500 then ((wimplelaw0_Num.f bt194.2).bind fun t205 => (some ((t205 == 0) == ((a0.size : Int) == 4)))) else (none))) else (none))) else (none))) else (none)) else (none)) else (none)) else (none))) else (none)) else (none))) else (none)) else (none)) else (none))) else (none)))))) else (none)))))) else (none))) else (none)) = some r := by first | (rw [hy178]; with_reducible exact H) | (have H2_ := (Option.bind_some _ _).symm.trans H; rw [hy178]; with_reducible exact H2_) | (have H2_ := (Option.bind_some _ _).symm.trans H; with_reducible exact H2_) | with_reducible exact H | (rw [hy178]; exact H) | exact H
        have Ny178 := Aside0.mk hy178
        clear hy178
        by_cases c9 : (a0 ++ (⟨#[0]⟩ : ByteArray)).size + (strOfNums y178).size ≤ 9223372036854775807
        · rw [if_pos c9] at H
          have c9b0 := eq_true c9
          have c9b1 : decide ((a0 ++ (⟨#[0]⟩ : ByteArray)).size + (strOfNums y178).size ≤ 9223372036854775807) = true := decide_eq_true c9
          try have c9b2 : (9223372036854775807 < (a0 ++ (⟨#[0]⟩ : ByteArray)).size + (strOfNums y178).size) = False := eq_false (Nat.not_lt.2 c9)
          try (have c9b4 : (9223372036854775807 < a0.size + 1 + (strOfNums y178).size) = False := eq_false (by have h_ := c9; have e0_ : (⟨#[0]⟩ : ByteArray).size = 1 := rfl; simp only [ByteArray.size_append] at h_; omega))
          try (have c9b3 := c9; simp only [ByteArray.size_append] at c9b3; replace c9b3 := eq_false (Nat.not_lt.2 c9b3))
          replace H := Option.bind_eq_some_iff.mp H
          obtain ⟨t181, A100, H⟩ := H
          replace H : (if ((a0 ++ (⟨#[0]⟩ : ByteArray)) ++ (strOfNums y178)).size + t181.size ≤ 9223372036854775807 then ((comp_Data.f k (((a0 ++ (⟨#[0]⟩ : ByteArray)) ++ (strOfNums y178)) ++ t181) (a0.size : Int) 4 15).bind fun bt182 => ((comp_Data.f k (((a0 ++ (⟨#[0]⟩ : ByteArray)) ++ (strOfNums y178)) ++ t181) (wrap64 ((a0.size : Int) + 2)) 2 2).bind fun bt184 => ((comp_Data.f k (((a0 ++ (⟨#[0]⟩ : ByteArray)) ++ (strOfNums y178)) ++ t181) (a0.size : Int) 4 999).bind fun bt186 => ((comp_Data.f k (((a0 ++ (⟨#[0]⟩ : ByteArray)) ++ (strOfNums y178)) ++ t181) (a0.size : Int) 3 15).bind fun bt188 => (if (((a0 ++ (⟨#[0]⟩ : ByteArray)) ++ (strOfNums y178)) ++ t181).size + 1 ≤ 9223372036854775807 then ((comp_Data.f k ((((a0 ++ (⟨#[0]⟩ : ByteArray)) ++ (strOfNums y178)) ++ t181) ++ (⟨#[122]⟩ : ByteArray)) (wrap64 ((a0.size : Int) + 2)) 3 5).bind fun bt190 => ((comp_Data.f k (((a0 ++ (⟨#[0]⟩ : ByteArray)) ++ (strOfNums y178)) ++ t181) (a0.size : Int) (wrap64 (5 + (Go.bits .and .i64 a2 63))) 999).bind fun bt192 => ((comp_Data.f k (((a0 ++ (⟨#[0]⟩ : ByteArray)) ++ (strOfNums y178)) ++ t181) 0 (a0.size : Int) 1).bind fun bt194 => ((wimplelaw0_Num.f bt182.2).bind fun t196 => (if t196 = 0 then ((some (([(a1) % 256] : List Int) : List Int)).bind fun y197 => (if 1 + (strOfNums y197).size ≤ 9223372036854775807 then (if ((⟨#[0]⟩ : ByteArray) ++ (strOfNums y197)).size + a0.size ≤ 9223372036854775807 then (if bt182.1.toList = (((⟨#[0]⟩ : ByteArray) ++ (strOfNums y197)) ++ a0).toList then ((wimplelaw0_Num.f bt184.2).bind fun t200 => (if t200 = 0 then (if bt184.1.toList = a0.toList then ((wimplelaw0_Num.f bt186.2).bind fun t201 => (if t201 = 0 then (if 0 ≤ (a0.size : Int) then (if (a0.size : Int) ≤ ((((a0 ++ (⟨#[0]⟩ : ByteArray)) ++ (strOfNums y178)) ++ t181).size : Int) then (if bt186.1.toList = ((((a0 ++ (⟨#[0]⟩ : ByteArray)) ++ (strOfNums y178)) ++ t181).extract ((a0.size : Int) : Int).toNat (((a0 ++ (⟨#[0]⟩ : ByteArray)) ++ (strOfNums y178)) ++ t181).size).toList then ((wimplelaw0_Num.f bt188.2).bind fun t202 => (if t202 = 500 then ((wimplelaw0_Num.f bt190.2).bind fun t203 => (if t203 = 500 then ((wimplelaw0_Num.f bt192.2).bind fun t204 => (if t204 = 500 then ((wimplelaw0_Num.f bt194.2).bind fun t205 => (some ((t205 == 0) == ((a0.size : Int) == 4)))) else (none))) else (none))) else (none))) else (none)) else (none)) else (none)) else (none))) else (none)) else (none))) else (none)) else (none)) else (none))) else (none)))))) else (none)))))) else (none)) = some r := H
          have A10 := Aside0.mk A100
          clear A100
          by_cases c11 : ((a0 ++ (⟨#[0]⟩ : ByteArray)) ++ (strOfNums y178)).size + t181.size ≤ 9223372036854775807
          · rw [if_pos c11] at H
            have c11b0 := eq_true c11
            have c11b1 : decide (((a0 ++ (⟨#[0]⟩ : ByteArray)) ++ (strOfNums y178)).size + t181.size ≤ 9223372036854775807) = true := decide_eq_true c11
            try have c11b2 : (9223372036854775807 < ((a0 ++ (⟨#[0]⟩ : ByteArray)) ++ (strOfNums y178)).size + t181.size) = False := eq_false (Nat.not_lt.2 c11)
            try (have c11b4 : (9223372036854775807 < a0.size + 1 + (strOfNums y178).size + t181.size) = False := eq_false (by have h_ := c11; have e0_ : (⟨#[0]⟩ : ByteArray).size = 1 := rfl; simp only [ByteArray.size_append] at h_; omega))
            try (have c11b3 := c11; simp only [ByteArray.size_append] at c11b3; replace c11b3 := eq_false (Nat.not_lt.2 c11b3))
            replace H := Option.bind_eq_some_iff.mp H
            obtain ⟨⟨t182, t183⟩, A120, H⟩ := H
            replace H : ((comp_Data.f k (((a0 ++ (⟨#[0]⟩ : ByteArray)) ++ (strOfNums y178)) ++ t181) (wrap64 ((a0.size : Int) + 2)) 2 2).bind fun bt184 => ((comp_Data.f k (((a0 ++ (⟨#[0]⟩ : ByteArray)) ++ (strOfNums y178)) ++ t181) (a0.size : Int) 4 999).bind fun bt186 => ((comp_Data.f k (((a0 ++ (⟨#[0]⟩ : ByteArray)) ++ (strOfNums y178)) ++ t181) (a0.size : Int) 3 15).bind fun bt188 => (if (((a0 ++ (⟨#[0]⟩ : ByteArray)) ++ (strOfNums y178)) ++ t181).size + 1 ≤ 9223372036854775807 then ((comp_Data.f k ((((a0 ++ (⟨#[0]⟩ : ByteArray)) ++ (strOfNums y178)) ++ t181) ++ (⟨#[122]⟩ : ByteArray)) (wrap64 ((a0.size : Int) + 2)) 3 5).bind fun bt190 => ((comp_Data.f k (((a0 ++ (⟨#[0]⟩ : ByteArray)) ++ (strOfNums y178)) ++ t181) (a0.size : Int) (wrap64 (5 + (Go.bits .and .i64 a2 63))) 999).bind fun bt192 => ((comp_Data.f k (((a0 ++ (⟨#[0]⟩ : ByteArray)) ++ (strOfNums y178)) ++ t181) 0 (a0.size : Int) 1).bind fun bt194 => ((wimplelaw0_Num.f t183).bind fun t196 => (if t196 = 0 then ((some (([(a1) % 256] : List Int) : List Int)).bind fun y197 => (if 1 + (strOfNums y197).size ≤ 9223372036854775807 then (if ((⟨#[0]⟩ : ByteArray) ++ (strOfNums y197)).size + a0.size ≤ 9223372036854775807 then (if t182.toList = (((⟨#[0]⟩ : ByteArray) ++ (strOfNums y197)) ++ a0).toList then ((wimplelaw0_Num.f bt184.2).bind fun t200 => (if t200 = 0 then (if bt184.1.toList = a0.toList then ((wimplelaw0_Num.f bt186.2).bind fun t201 => (if t201 = 0 then (if 0 ≤ (a0.size : Int) then (if (a0.size : Int) ≤ ((((a0 ++ (⟨#[0]⟩ : ByteArray)) ++ (strOfNums y178)) ++ t181).size : Int) then (if bt186.1.toList = ((((a0 ++ (⟨#[0]⟩ : ByteArray)) ++ (strOfNums y178)) ++ t181).extract ((a0.size : Int) : Int).toNat (((a0 ++ (⟨#[0]⟩ : ByteArray)) ++ (strOfNums y178)) ++ t181).size).toList then ((wimplelaw0_Num.f bt188.2).bind fun t202 => (if t202 = 500 then ((wimplelaw0_Num.f bt190.2).bind fun t203 => (if t203 = 500 then ((wimplelaw0_Num.f bt192.2).bind fun t204 => (if t204 = 500 then ((wimplelaw0_Num.f bt194.2).bind fun t205 => (some ((t205 == 0) == ((a0.size : Int) == 4)))) else (none))) else (none))) else (none))) else (none)) else (none)) else (none)) else (none))) else (none)) else (none))) else (none)) else (none)) else (none))) else (none)))))) else (none))))) = some r := H
            have A12 := Aside0.mk A120
            clear A120
            replace H := Option.bind_eq_some_iff.mp H
            obtain ⟨⟨t184, t185⟩, A130, H⟩ := H
            replace H : ((comp_Data.f k (((a0 ++ (⟨#[0]⟩ : ByteArray)) ++ (strOfNums y178)) ++ t181) (a0.size : Int) 4 999).bind fun bt186 => ((comp_Data.f k (((a0 ++ (⟨#[0]⟩ : ByteArray)) ++ (strOfNums y178)) ++ t181) (a0.size : Int) 3 15).bind fun bt188 => (if (((a0 ++ (⟨#[0]⟩ : ByteArray)) ++ (strOfNums y178)) ++ t181).size + 1 ≤ 9223372036854775807 then ((comp_Data.f k ((((a0 ++ (⟨#[0]⟩ : ByteArray)) ++ (strOfNums y178)) ++ t181) ++ (⟨#[122]⟩ : ByteArray)) (wrap64 ((a0.size : Int) + 2)) 3 5).bind fun bt190 => ((comp_Data.f k (((a0 ++ (⟨#[0]⟩ : ByteArray)) ++ (strOfNums y178)) ++ t181) (a0.size : Int) (wrap64 (5 + (Go.bits .and .i64 a2 63))) 999).bind fun bt192 => ((comp_Data.f k (((a0 ++ (⟨#[0]⟩ : ByteArray)) ++ (strOfNums y178)) ++ t181) 0 (a0.size : Int) 1).bind fun bt194 => ((wimplelaw0_Num.f t183).bind fun t196 => (if t196 = 0 then ((some (([(a1) % 256] : List Int) : List Int)).bind fun y197 => (if 1 + (strOfNums y197).size ≤ 9223372036854775807 then (if ((⟨#[0]⟩ : ByteArray) ++ (strOfNums y197)).size + a0.size ≤ 9223372036854775807 then (if t182.toList = (((⟨#[0]⟩ : ByteArray) ++ (strOfNums y197)) ++ a0).toList then ((wimplelaw0_Num.f t185).bind fun t200 => (if t200 = 0 then (if t184.toList = a0.toList then ((wimplelaw0_Num.f bt186.2).bind fun t201 => (if t201 = 0 then (if 0 ≤ (a0.size : Int) then (if (a0.size : Int) ≤ ((((a0 ++ (⟨#[0]⟩ : ByteArray)) ++ (strOfNums y178)) ++ t181).size : Int) then (if bt186.1.toList = ((((a0 ++ (⟨#[0]⟩ : ByteArray)) ++ (strOfNums y178)) ++ t181).extract ((a0.size : Int) : Int).toNat (((a0 ++ (⟨#[0]⟩ : ByteArray)) ++ (strOfNums y178)) ++ t181).size).toList then ((wimplelaw0_Num.f bt188.2).bind fun t202 => (if t202 = 500 then ((wimplelaw0_Num.f bt190.2).bind fun t203 => (if t203 = 500 then ((wimplelaw0_Num.f bt192.2).bind fun t204 => (if t204 = 500 then ((wimplelaw0_Num.f bt194.2).bind fun t205 => (some ((t205 == 0) == ((a0.size : Int) == 4)))) else (none))) else (none))) else (none))) else (none)) else (none)) else (none)) else (none))) else (none)) else (none))) else (none)) else (none)) else (none))) else (none)))))) else (none)))) = some r := H
            have A13 := Aside0.mk A130
            clear A130
            replace H := Option.bind_eq_some_iff.mp H
            obtain ⟨⟨t186, t187⟩, A140, H⟩ := H
            replace H : ((comp_Data.f k (((a0 ++ (⟨#[0]⟩ : ByteArray)) ++ (strOfNums y178)) ++ t181) (a0.size : Int) 3 15).bind fun bt188 => (if (((a0 ++ (⟨#[0]⟩ : ByteArray)) ++ (strOfNums y178)) ++ t181).size + 1 ≤ 9223372036854775807 then ((comp_Data.f k ((((a0 ++ (⟨#[0]⟩ : ByteArray)) ++ (strOfNums y178)) ++ t181) ++ (⟨#[122]⟩ : ByteArray)) (wrap64 ((a0.size : Int) + 2)) 3 5).bind fun bt190 => ((comp_Data.f k (((a0 ++ (⟨#[0]⟩ : ByteArray)) ++ (strOfNums y178)) ++ t181) (a0.size : Int) (wrap64 (5 + (Go.bits .and .i64 a2 63))) 999).bind fun bt192 => ((comp_Data.f k (((a0 ++ (⟨#[0]⟩ : ByteArray)) ++ (strOfNums y178)) ++ t181) 0 (a0.size : Int) 1).bind fun bt194 => ((wimplelaw0_Num.f t183).bind fun t196 => (if t196 = 0 then ((some (([(a1) % 256] : List Int) : List Int)).bind fun y197 => (if 1 + (strOfNums y197).size ≤ 9223372036854775807 then (if ((⟨#[0]⟩ : ByteArray) ++ (strOfNums y197)).size + a0.size ≤ 9223372036854775807 then (if t182.toList = (((⟨#[0]⟩ : ByteArray) ++ (strOfNums y197)) ++ a0).toList then ((wimplelaw0_Num.f t185).bind fun t200 => (if t200 = 0 then (if t184.toList = a0.toList then ((wimplelaw0_Num.f t187).bind fun t201 => (if t201 = 0 then (if 0 ≤ (a0.size : Int) then (if (a0.size : Int) ≤ ((((a0 ++ (⟨#[0]⟩ : ByteArray)) ++ (strOfNums y178)) ++ t181).size : Int) then (if t186.toList = ((((a0 ++ (⟨#[0]⟩ : ByteArray)) ++ (strOfNums y178)) ++ t181).extract ((a0.size : Int) : Int).toNat (((a0 ++ (⟨#[0]⟩ : ByteArray)) ++ (strOfNums y178)) ++ t181).size).toList then ((wimplelaw0_Num.f bt188.2).bind fun t202 => (if t202 = 500 then ((wimplelaw0_Num.f bt190.2).bind fun t203 => (if t203 = 500 then ((wimplelaw0_Num.f bt192.2).bind fun t204 => (if t204 = 500 then ((wimplelaw0_Num.f bt194.2).bind fun t205 => (some ((t205 == 0) == ((a0.size : Int) == 4)))) else (none))) else (none))) else (none))) else (none)) else (none)) else (none)) else (none))) else (none)) else (none))) else (none)) else (none)) else (none))) else (none)))))) else (none))) = some r := H
            have A14 := Aside0.mk A140
            clear A140
            replace H := Option.bind_eq_some_iff.mp H
            obtain ⟨⟨t188, t189⟩, A150, H⟩ := H
            replace H : (if (((a0 ++ (⟨#[0]⟩ : ByteArray)) ++ (strOfNums y178)) ++ t181).size + 1 ≤ 9223372036854775807 then ((comp_Data.f k ((((a0 ++ (⟨#[0]⟩ : ByteArray)) ++ (strOfNums y178)) ++ t181) ++ (⟨#[122]⟩ : ByteArray)) (wrap64 ((a0.size : Int) + 2)) 3 5).bind fun bt190 => ((comp_Data.f k (((a0 ++ (⟨#[0]⟩ : ByteArray)) ++ (strOfNums y178)) ++ t181) (a0.size : Int) (wrap64 (5 + (Go.bits .and .i64 a2 63))) 999).bind fun bt192 => ((comp_Data.f k (((a0 ++ (⟨#[0]⟩ : ByteArray)) ++ (strOfNums y178)) ++ t181) 0 (a0.size : Int) 1).bind fun bt194 => ((wimplelaw0_Num.f t183).bind fun t196 => (if t196 = 0 then ((some (([(a1) % 256] : List Int) : List Int)).bind fun y197 => (if 1 + (strOfNums y197).size ≤ 9223372036854775807 then (if ((⟨#[0]⟩ : ByteArray) ++ (strOfNums y197)).size + a0.size ≤ 9223372036854775807 then (if t182.toList = (((⟨#[0]⟩ : ByteArray) ++ (strOfNums y197)) ++ a0).toList then ((wimplelaw0_Num.f t185).bind fun t200 => (if t200 = 0 then (if t184.toList = a0.toList then ((wimplelaw0_Num.f t187).bind fun t201 => (if t201 = 0 then (if 0 ≤ (a0.size : Int) then (if (a0.size : Int) ≤ ((((a0 ++ (⟨#[0]⟩ : ByteArray)) ++ (strOfNums y178)) ++ t181).size : Int) then (if t186.toList = ((((a0 ++ (⟨#[0]⟩ : ByteArray)) ++ (strOfNums y178)) ++ t181).extract ((a0.size : Int) : Int).toNat (((a0 ++ (⟨#[0]⟩ : ByteArray)) ++ (strOfNums y178)) ++ t181).size).toList then ((wimplelaw0_Num.f t189).bind fun t202 => (if t202 = 500 then ((wimplelaw0_Num.f bt190.2).bind fun t203 => (if t203 = 500 then ((wimplelaw0_Num.f bt192.2).bind fun t204 => (if t204 = 500 then ((wimplelaw0_Num.f bt194.2).bind fun t205 => (some ((t205 == 0) == ((a0.size : Int) == 4)))) else (none))) else (none))) else (none))) else (none)) else (none)) else (none)) else (none))) else (none)) else (none))) else (none)) else (none)) else (none))) else (none)))))) else (none)) = some r := H
            have A15 := Aside0.mk A150
            clear A150
            by_cases c16 : (((a0 ++ (⟨#[0]⟩ : ByteArray)) ++ (strOfNums y178)) ++ t181).size + 1 ≤ 9223372036854775807
            · rw [if_pos c16] at H
              have c16b0 := eq_true c16
              have c16b1 : decide ((((a0 ++ (⟨#[0]⟩ : ByteArray)) ++ (strOfNums y178)) ++ t181).size + 1 ≤ 9223372036854775807) = true := decide_eq_true c16
              try have c16b2 : (9223372036854775807 < (((a0 ++ (⟨#[0]⟩ : ByteArray)) ++ (strOfNums y178)) ++ t181).size + 1) = False := eq_false (Nat.not_lt.2 c16)
              try (have c16b4 : (9223372036854775807 < a0.size + 1 + (strOfNums y178).size + t181.size + 1) = False := eq_false (by have h_ := c16; have e0_ : (⟨#[0]⟩ : ByteArray).size = 1 := rfl; simp only [ByteArray.size_append] at h_; omega))
              try (have c16b3 := c16; simp only [ByteArray.size_append] at c16b3; replace c16b3 := eq_false (Nat.not_lt.2 c16b3))
              replace H := Option.bind_eq_some_iff.mp H
              obtain ⟨⟨t190, t191⟩, A170, H⟩ := H
              replace H : ((comp_Data.f k (((a0 ++ (⟨#[0]⟩ : ByteArray)) ++ (strOfNums y178)) ++ t181) (a0.size : Int) (wrap64 (5 + (Go.bits .and .i64 a2 63))) 999).bind fun bt192 => ((comp_Data.f k (((a0 ++ (⟨#[0]⟩ : ByteArray)) ++ (strOfNums y178)) ++ t181) 0 (a0.size : Int) 1).bind fun bt194 => ((wimplelaw0_Num.f t183).bind fun t196 => (if t196 = 0 then ((some (([(a1) % 256] : List Int) : List Int)).bind fun y197 => (if 1 + (strOfNums y197).size ≤ 9223372036854775807 then (if ((⟨#[0]⟩ : ByteArray) ++ (strOfNums y197)).size + a0.size ≤ 9223372036854775807 then (if t182.toList = (((⟨#[0]⟩ : ByteArray) ++ (strOfNums y197)) ++ a0).toList then ((wimplelaw0_Num.f t185).bind fun t200 => (if t200 = 0 then (if t184.toList = a0.toList then ((wimplelaw0_Num.f t187).bind fun t201 => (if t201 = 0 then (if 0 ≤ (a0.size : Int) then (if (a0.size : Int) ≤ ((((a0 ++ (⟨#[0]⟩ : ByteArray)) ++ (strOfNums y178)) ++ t181).size : Int) then (if t186.toList = ((((a0 ++ (⟨#[0]⟩ : ByteArray)) ++ (strOfNums y178)) ++ t181).extract ((a0.size : Int) : Int).toNat (((a0 ++ (⟨#[0]⟩ : ByteArray)) ++ (strOfNums y178)) ++ t181).size).toList then ((wimplelaw0_Num.f t189).bind fun t202 => (if t202 = 500 then ((wimplelaw0_Num.f t191).bind fun t203 => (if t203 = 500 then ((wimplelaw0_Num.f bt192.2).bind fun t204 => (if t204 = 500 then ((wimplelaw0_Num.f bt194.2).bind fun t205 => (some ((t205 == 0) == ((a0.size : Int) == 4)))) else (none))) else (none))) else (none))) else (none)) else (none)) else (none)) else (none))) else (none)) else (none))) else (none)) else (none)) else (none))) else (none))))) = some r := H
              have A17 := Aside0.mk A170
              clear A170
              replace H := Option.bind_eq_some_iff.mp H
              obtain ⟨⟨t192, t193⟩, A180, H⟩ := H
              replace H : ((comp_Data.f k (((a0 ++ (⟨#[0]⟩ : ByteArray)) ++ (strOfNums y178)) ++ t181) 0 (a0.size : Int) 1).bind fun bt194 => ((wimplelaw0_Num.f t183).bind fun t196 => (if t196 = 0 then ((some (([(a1) % 256] : List Int) : List Int)).bind fun y197 => (if 1 + (strOfNums y197).size ≤ 9223372036854775807 then (if ((⟨#[0]⟩ : ByteArray) ++ (strOfNums y197)).size + a0.size ≤ 9223372036854775807 then (if t182.toList = (((⟨#[0]⟩ : ByteArray) ++ (strOfNums y197)) ++ a0).toList then ((wimplelaw0_Num.f t185).bind fun t200 => (if t200 = 0 then (if t184.toList = a0.toList then ((wimplelaw0_Num.f t187).bind fun t201 => (if t201 = 0 then (if 0 ≤ (a0.size : Int) then (if (a0.size : Int) ≤ ((((a0 ++ (⟨#[0]⟩ : ByteArray)) ++ (strOfNums y178)) ++ t181).size : Int) then (if t186.toList = ((((a0 ++ (⟨#[0]⟩ : ByteArray)) ++ (strOfNums y178)) ++ t181).extract ((a0.size : Int) : Int).toNat (((a0 ++ (⟨#[0]⟩ : ByteArray)) ++ (strOfNums y178)) ++ t181).size).toList then ((wimplelaw0_Num.f t189).bind fun t202 => (if t202 = 500 then ((wimplelaw0_Num.f t191).bind fun t203 => (if t203 = 500 then ((wimplelaw0_Num.f t193).bind fun t204 => (if t204 = 500 then ((wimplelaw0_Num.f bt194.2).bind fun t205 => (some ((t205 == 0) == ((a0.size : Int) == 4)))) else (none))) else (none))) else (none))) else (none)) else (none)) else (none)) else (none))) else (none)) else (none))) else (none)) else (none)) else (none))) else (none)))) = some r := H
              have A18 := Aside0.mk A180
              clear A180
              replace H := Option.bind_eq_some_iff.mp H
              obtain ⟨⟨t194, t195⟩, A190, H⟩ := H
              replace H : ((wimplelaw0_Num.f t183).bind fun t196 => (if t196 = 0 then ((some (([(a1) % 256] : List Int) : List Int)).bind fun y197 => (if 1 + (strOfNums y197).size ≤ 9223372036854775807 then (if ((⟨#[0]⟩ : ByteArray) ++ (strOfNums y197)).size + a0.size ≤ 9223372036854775807 then (if t182.toList = (((⟨#[0]⟩ : ByteArray) ++ (strOfNums y197)) ++ a0).toList then ((wimplelaw0_Num.f t185).bind fun t200 => (if t200 = 0 then (if t184.toList = a0.toList then ((wimplelaw0_Num.f t187).bind fun t201 => (if t201 = 0 then (if 0 ≤ (a0.size : Int) then (if (a0.size : Int) ≤ ((((a0 ++ (⟨#[0]⟩ : ByteArray)) ++ (strOfNums y178)) ++ t181).size : Int) then (if t186.toList = ((((a0 ++ (⟨#[0]⟩ : ByteArray)) ++ (strOfNums y178)) ++ t181).extract ((a0.size : Int) : Int).toNat (((a0 ++ (⟨#[0]⟩ : ByteArray)) ++ (strOfNums y178)) ++ t181).size).toList then ((wimplelaw0_Num.f t189).bind fun t202 => (if t202 = 500 then ((wimplelaw0_Num.f t191).bind fun t203 => (if t203 = 500 then ((wimplelaw0_Num.f t193).bind fun t204 => (if t204 = 500 then ((wimplelaw0_Num.f t195).bind fun t205 => (some ((t205 == 0) == ((a0.size : Int) == 4)))) else (none))) else (none))) else (none))) else (none)) else (none)) else (none)) else (none))) else (none)) else (none))) else (none)) else (none)) else (none))) else (none))) = some r := H
              have A19 := Aside0.mk A190
              clear A190
              replace H := Option.bind_eq_some_iff.mp H
              obtain ⟨t196, A200, H⟩ := H
              replace H : (if t196 = 0 then ((some (([(a1) % 256] : List Int) : List Int)).bind fun y197 => (if 1 + (strOfNums y197).size ≤ 9223372036854775807 then (if ((⟨#[0]⟩ : ByteArray) ++ (strOfNums y197)).size + a0.size ≤ 9223372036854775807 then (if t182.toList = (((⟨#[0]⟩ : ByteArray) ++ (strOfNums y197)) ++ a0).toList then ((wimplelaw0_Num.f t185).bind fun t200 => (if t200 = 0 then (if t184.toList = a0.toList then ((wimplelaw0_Num.f t187).bind fun t201 => (if t201 = 0 then (if 0 ≤ (a0.size : Int) then (if (a0.size : Int) ≤ ((((a0 ++ (⟨#[0]⟩ : ByteArray)) ++ (strOfNums y178)) ++ t181).size : Int) then (if t186.toList = ((((a0 ++ (⟨#[0]⟩ : ByteArray)) ++ (strOfNums y178)) ++ t181).extract ((a0.size : Int) : Int).toNat (((a0 ++ (⟨#[0]⟩ : ByteArray)) ++ (strOfNums y178)) ++ t181).size).toList then ((wimplelaw0_Num.f t189).bind fun t202 => (if t202 = 500 then ((wimplelaw0_Num.f t191).bind fun t203 => (if t203 = 500 then ((wimplelaw0_Num.f t193).bind fun t204 => (if t204 = 500 then ((wimplelaw0_Num.f t195).bind fun t205 => (some ((t205 == 0) == ((a0.size : Int) == 4)))) else (none))) else (none))) else (none))) else (none)) else (none)) else (none)) else (none))) else (none)) else (none))) else (none)) else (none)) else (none))) else (none)) = some r := H
              have A20 := Aside0.mk A200
              clear A200
              by_cases c21 : t196 = 0
              · rw [if_pos c21] at H
                have c21b0 : (t196 == 0) = true := beq_iff_eq.mpr c21
                have c21b1 : (t196 != 0) = false := bne_eq_false_iff_eq.mpr c21
                clear c21
                obtain ⟨y197, hy197⟩ : ∃ y_ : List Int, y_ = (([(a1) % 256] : List Int)) := ⟨_, rfl⟩
                replace H : (if 1 + (strOfNums y197).size ≤ 9223372036854775807 then (if ((⟨#[0]⟩ : ByteArray) ++ (strOfNums y197)).size + a0.size ≤ 9223372036854775807 then (if t182.toList = (((⟨#[0]⟩ : ByteArray) ++ (strOfNums y197)) ++ a0).toList then ((wimplelaw0_Num.f t185).bind fun t200 => (if t200 = 0 then (if t184.toList = a0.toList then ((wimplelaw0_Num.f t187).bind fun t201 => (if t201 = 0 then (if 0 ≤ (a0.size : Int) then (if (a0.size : Int) ≤ ((((a0 ++ (⟨#[0]⟩ : ByteArray)) ++ (strOfNums y178)) ++ t181).size : Int) then (if t186.toList = ((((a0 ++ (⟨#[0]⟩ : ByteArray)) ++ (strOfNums y178)) ++ t181).extract ((a0.size : Int) : Int).toNat (((a0 ++ (⟨#[0]⟩ : ByteArray)) ++ (strOfNums y178)) ++ t181).size).toList then ((wimplelaw0_Num.f t189).bind fun t202 => (if t202 = 500 then ((wimplelaw0_Num.f t191).bind fun t203 => (if t203 = 500 then ((wimplelaw0_Num.f t193).bind fun t204 => (if t204 = 500 then ((wimplelaw0_Num.f t195).bind fun t205 => (some ((t205 == 0) == ((a0.size : Int) == 4)))) else (none))) else (none))) else (none))) else (none)) else (none)) else (none)) else (none))) else (none)) else (none))) else (none)) else (none)) else (none)) = some r := by first | (rw [hy197]; with_reducible exact H) | (have H2_ := (Option.bind_some _ _).symm.trans H; rw [hy197]; with_reducible exact H2_) | (have H2_ := (Option.bind_some _ _).symm.trans H; with_reducible exact H2_) | with_reducible exact H | (rw [hy197]; exact H) | exact H
                have Ny197 := Aside0.mk hy197
                clear hy197
                by_cases c22 : 1 + (strOfNums y197).size ≤ 9223372036854775807
                · rw [if_pos c22] at H
                  have c22b0 := eq_true c22
                  have c22b1 : decide (1 + (strOfNums y197).size ≤ 9223372036854775807) = true := decide_eq_true c22
                  try have c22b2 : (9223372036854775807 < 1 + (strOfNums y197).size) = False := eq_false (Nat.not_lt.2 c22)
                  by_cases c23 : ((⟨#[0]⟩ : ByteArray) ++ (strOfNums y197)).size + a0.size ≤ 9223372036854775807
                  · rw [if_pos c23] at H
                    have c23b0 := eq_true c23
                    have c23b1 : decide (((⟨#[0]⟩ : ByteArray) ++ (strOfNums y197)).size + a0.size ≤ 9223372036854775807) = true := decide_eq_true c23
                    try have c23b2 : (9223372036854775807 < ((⟨#[0]⟩ : ByteArray) ++ (strOfNums y197)).size + a0.size) = False := eq_false (Nat.not_lt.2 c23)
                    try (have c23b4 : (9223372036854775807 < 1 + (strOfNums y197).size + a0.size) = False := eq_false (by have h_ := c23; have e0_ : (⟨#[0]⟩ : ByteArray).size = 1 := rfl; simp only [ByteArray.size_append] at h_; omega))
                    try (have c23b3 := c23; simp only [ByteArray.size_append] at c23b3; replace c23b3 := eq_false (Nat.not_lt.2 c23b3))
                    by_cases c24 : t182.toList = (((⟨#[0]⟩ : ByteArray) ++ (strOfNums y197)) ++ a0).toList
                    · rw [if_pos c24] at H
                      have c24b0 : (t182.toList == (((⟨#[0]⟩ : ByteArray) ++ (strOfNums y197)) ++ a0).toList) = true := beq_iff_eq.mpr c24
                      have c24b1 : (t182.toList != (((⟨#[0]⟩ : ByteArray) ++ (strOfNums y197)) ++ a0).toList) = false := bne_eq_false_iff_eq.mpr c24
                      clear c24
                      replace H := Option.bind_eq_some_iff.mp H
                      obtain ⟨t200, A250, H⟩ := H
                      replace H : (if t200 = 0 then (if t184.toList = a0.toList then ((wimplelaw0_Num.f t187).bind fun t201 => (if t201 = 0 then (if 0 ≤ (a0.size : Int) then (if (a0.size : Int) ≤ ((((a0 ++ (⟨#[0]⟩ : ByteArray)) ++ (strOfNums y178)) ++ t181).size : Int) then (if t186.toList = ((((a0 ++ (⟨#[0]⟩ : ByteArray)) ++ (strOfNums y178)) ++ t181).extract ((a0.size : Int) : Int).toNat (((a0 ++ (⟨#[0]⟩ : ByteArray)) ++ (strOfNums y178)) ++ t181).size).toList then ((wimplelaw0_Num.f t189).bind fun t202 => (if t202 = 500 then ((wimplelaw0_Num.f t191).bind fun t203 => (if t203 = 500 then ((wimplelaw0_Num.f t193).bind fun t204 => (if t204 = 500 then ((wimplelaw0_Num.f t195).bind fun t205 => (some ((t205 == 0) == ((a0.size : Int) == 4)))) else (none))) else (none))) else (none))) else (none)) else (none)) else (none)) else (none))) else (none)) else (none)) = some r := H
                      have A25 := Aside0.mk A250
                      clear A250
                      by_cases c26 : t200 = 0
                      · rw [if_pos c26] at H
                        have c26b0 : (t200 == 0) = true := beq_iff_eq.mpr c26
                        have c26b1 : (t200 != 0) = false := bne_eq_false_iff_eq.mpr c26
                        clear c26
                        by_cases c27 : t184.toList = a0.toList
                        · rw [if_pos c27] at H
                          have c27b0 : (t184.toList == a0.toList) = true := beq_iff_eq.mpr c27
                          have c27b1 : (t184.toList != a0.toList) = false := bne_eq_false_iff_eq.mpr c27
                          clear c27
                          replace H := Option.bind_eq_some_iff.mp H
                          obtain ⟨t201, A280, H⟩ := H
                          replace H : (if t201 = 0 then (if 0 ≤ (a0.size : Int) then (if (a0.size : Int) ≤ ((((a0 ++ (⟨#[0]⟩ : ByteArray)) ++ (strOfNums y178)) ++ t181).size : Int) then (if t186.toList = ((((a0 ++ (⟨#[0]⟩ : ByteArray)) ++ (strOfNums y178)) ++ t181).extract ((a0.size : Int) : Int).toNat (((a0 ++ (⟨#[0]⟩ : ByteArray)) ++ (strOfNums y178)) ++ t181).size).toList then ((wimplelaw0_Num.f t189).bind fun t202 => (if t202 = 500 then ((wimplelaw0_Num.f t191).bind fun t203 => (if t203 = 500 then ((wimplelaw0_Num.f t193).bind fun t204 => (if t204 = 500 then ((wimplelaw0_Num.f t195).bind fun t205 => (some ((t205 == 0) == ((a0.size : Int) == 4)))) else (none))) else (none))) else (none))) else (none)) else (none)) else (none)) else (none)) = some r := H
                          have A28 := Aside0.mk A280
                          clear A280
                          by_cases c29 : t201 = 0
                          · rw [if_pos c29] at H
                            have c29b0 : (t201 == 0) = true := beq_iff_eq.mpr c29
                            have c29b1 : (t201 != 0) = false := bne_eq_false_iff_eq.mpr c29
                            clear c29
                            by_cases c30 : 0 ≤ (a0.size : Int)
                            · rw [if_pos c30] at H
                              have c30b0 := eq_true c30
                              have c30b1 : decide (0 ≤ (a0.size : Int)) = true := decide_eq_true c30
                              clear c30
                              by_cases c31 : (a0.size : Int) ≤ ((((a0 ++ (⟨#[0]⟩ : ByteArray)) ++ (strOfNums y178)) ++ t181).size : Int)
                              · rw [if_pos c31] at H
                                have c31b0 := eq_true c31
                                have c31b1 : decide ((a0.size : Int) ≤ ((((a0 ++ (⟨#[0]⟩ : ByteArray)) ++ (strOfNums y178)) ++ t181).size : Int)) = true := decide_eq_true c31
                                by_cases c32 : t186.toList = ((((a0 ++ (⟨#[0]⟩ : ByteArray)) ++ (strOfNums y178)) ++ t181).extract ((a0.size : Int) : Int).toNat (((a0 ++ (⟨#[0]⟩ : ByteArray)) ++ (strOfNums y178)) ++ t181).size).toList
                                · rw [if_pos c32] at H
                                  have c32b0 : (t186.toList == ((((a0 ++ (⟨#[0]⟩ : ByteArray)) ++ (strOfNums y178)) ++ t181).extract ((a0.size : Int) : Int).toNat (((a0 ++ (⟨#[0]⟩ : ByteArray)) ++ (strOfNums y178)) ++ t181).size).toList) = true := beq_iff_eq.mpr c32
                                  have c32b1 : (t186.toList != ((((a0 ++ (⟨#[0]⟩ : ByteArray)) ++ (strOfNums y178)) ++ t181).extract ((a0.size : Int) : Int).toNat (((a0 ++ (⟨#[0]⟩ : ByteArray)) ++ (strOfNums y178)) ++ t181).size).toList) = false := bne_eq_false_iff_eq.mpr c32
                                  have c32b4 : (t186.toList = (((a0 ++ (⟨#[0]⟩ : ByteArray)) ++ (strOfNums y178)) ++ t181 |>.extract a0.size (a0.size + 1 + (strOfNums y178).size + t181.size)).toList) = True := eq_true (by have h_ := c32; simp only [ByteArray.size_append, Int.toNat_natCast] at h_; exact h_)
                                  clear c32
                                  replace H := Option.bind_eq_some_iff.mp H
                                  obtain ⟨t202, A330, H⟩ := H
                                  replace H : (if t202 = 500 then ((wimplelaw0_Num.f t191).bind fun t203 => (if t203 = 500 then ((wimplelaw0_Num.f t193).bind fun t204 => (if t204 = 500 then ((wimplelaw0_Num.f t195).bind fun t205 => (some ((t205 == 0) == ((a0.size : Int) == 4)))) else (none))) else (none))) else (none)) = some r := H
                                  have A33 := Aside0.mk A330
                                  clear A330
                                  by_cases c34 : t202 = 500
                                  · rw [if_pos c34] at H
                                    have c34b0 : (t202 == 500) = true := beq_iff_eq.mpr c34
                                    have c34b1 : (t202 != 500) = false := bne_eq_false_iff_eq.mpr c34
                                    clear c34
                                    replace H := Option.bind_eq_some_iff.mp H
                                    obtain ⟨t203, A350, H⟩ := H
                                    replace H : (if t203 = 500 then ((wimplelaw0_Num.f t193).bind fun t204 => (if t204 = 500 then ((wimplelaw0_Num.f t195).bind fun t205 => (some ((t205 == 0) == ((a0.size : Int) == 4)))) else (none))) else (none)) = some r := H
                                    have A35 := Aside0.mk A350
                                    clear A350
                                    by_cases c36 : t203 = 500
                                    · rw [if_pos c36] at H
                                      have c36b0 : (t203 == 500) = true := beq_iff_eq.mpr c36
                                      have c36b1 : (t203 != 500) = false := bne_eq_false_iff_eq.mpr c36
                                      clear c36
                                      replace H := Option.bind_eq_some_iff.mp H
                                      obtain ⟨t204, A370, H⟩ := H
                                      replace H : (if t204 = 500 then ((wimplelaw0_Num.f t195).bind fun t205 => (some ((t205 == 0) == ((a0.size : Int) == 4)))) else (none)) = some r := H
                                      have A37 := Aside0.mk A370
                                      clear A370
                                      by_cases c38 : t204 = 500
                                      · rw [if_pos c38] at H
                                        have c38b0 : (t204 == 500) = true := beq_iff_eq.mpr c38
                                        have c38b1 : (t204 != 500) = false := bne_eq_false_iff_eq.mpr c38
                                        clear c38
                                        replace H := Option.bind_eq_some_iff.mp H
                                        obtain ⟨t205, A390, H⟩ := H
                                        replace H : (some ((t205 == 0) == ((a0.size : Int) == 4))) = some r := H
                                        have A39 := Aside0.mk A390
                                        clear A390
                                        obtain rfl := Option.some.inj H
                                        go_enter Try.func8, Try.ntmps8
                                        try go_wp2_with (first | ((with_reducible refine gate_dst (N := 23) rfl ?_); (try (refine gate_guard (by rfl) ?_; dsimp only)); (with_reducible refine gate_callee (f := 20) rfl ?_); refine goesL_ (some 23) rfl rfl Try.func20 (by kernel_rfl) rfl #[] rfl (by (try simp only [List.map_toArray, List.map_cons, List.map_nil]); first | done | rfl | (simp only [List.length_drop, List.length_take]; rfl)) ?_; (with_reducible refine (wimplelaw5_awake.calls  true _ A4.out).mono ?_); rintro e w40 ⟨rfl, hb⟩; refine ⟨_, rfl, ?_⟩; have n0_ := Aside0.mk (below_step (by repeat (first | (with_reducible first | exact HB.out | apply below_alloc | apply pw_below_drewN | apply below_drew1) | exact HB.out)) hb); clear HB; have HB := n0_; clear n0_; (try clear hb); (try clear hb2); (try clear hk); (try clear hi)) | ((with_reducible refine gate_dst (N := 26) rfl ?_); (try (refine gate_guard (by rfl) ?_; dsimp only)); (with_reducible refine gate_callee (f := 21) rfl ?_); refine goesL_ (some 26) rfl rfl Try.func21 (by kernel_rfl) rfl #[.string a0] rfl (by (try simp only [List.map_toArray, List.map_cons, List.map_nil]); first | done | rfl | (simp only [List.length_drop, List.length_take]; rfl)) ?_; (with_reducible refine (wimpleref1_May.calls a0 true _ A6.out).mono ?_); rintro e w41 ⟨rfl, hb⟩; refine ⟨_, rfl, ?_⟩; have n0_ := Aside0.mk (below_step (by repeat (first | (with_reducible first | exact HB.out | apply below_alloc | apply pw_below_drewN | apply below_drew1) | exact HB.out)) hb); clear HB; have HB := n0_; clear n0_; (try clear hb); (try clear hb2); (try clear hk); (try clear hi)))
                                        have n0_ := Aside0.mk (below_drew1 HB.out)
                                        clear HB
                                        have HB := n0_
                                        clear n0_
                                        refine start_ (n := 10) (S := fun w' => True) (ds := []) #[false, false, false, false, false, false, false, false, false, false] (by kernel_rfl) rfl rfl trivial (fun hHeld => ?_); refine with_tabW wimplelaw5_CompData.tab5 wimplelaw5_CompData.bits5 (fun HT_ HW_ => ?_)
                                        generalize w41.drew = w42 at HB hHeld ⊢
                                        refine pure_ (i := 0) (N := some 28) (v := ?_) (a' := ?_) #[true, false, false, false, false, false, false, false, false, false] rfl rfl (any_of HT_.out (by kernel_rfl)) (fun _ _ _ h => h) (Or.inl ⟨by rfl, ?_⟩) ?_ ?_
                                        rotate_left
                                        · intro w'
                                          go_simp
                                          with_reducible rfl
                                        rotate_left
                                        · simp only [Act.put, List.setIfInBounds_toArray, List.set_cons_zero, List.set_cons_succ, i64_w, i32_w]
                                          rfl
                                        refine pure_ (i := 1) (N := some 29) (v := ?_) (a' := ?_) #[true, true, false, false, false, false, false, false, false, false] rfl rfl (any_of HT_.out (by kernel_rfl)) (fun _ _ _ h => h) (Or.inl ⟨by rfl, ?_⟩) ?_ ?_
                                        rotate_left
                                        · intro w'
                                          go_simp
                                          with_reducible rfl
                                        rotate_left
                                        · simp only [Act.put, List.setIfInBounds_toArray, List.set_cons_zero, List.set_cons_succ, i64_w, i32_w]
                                          rfl
                                        refine pure_ (i := 2) (N := some 30) (v := ?_) (a' := ?_) #[true, true, true, false, false, false, false, false, false, false] rfl rfl (any_of HT_.out (by kernel_rfl)) (fun _ _ _ h => h) (Or.inl ⟨by rfl, ?_⟩) ?_ ?_
                                        rotate_left
                                        · intro w'
                                          go_simp
                                          with_reducible rfl
                                        rotate_left
                                        · simp only [Act.put, List.setIfInBounds_toArray, List.set_cons_zero, List.set_cons_succ, i64_w, i32_w]
                                          rfl
                                        refine pure_ (i := 3) (N := some 31) (v := ?_) (a' := ?_) #[true, true, true, true, false, false, false, false, false, false] rfl rfl (any_of HT_.out (by kernel_rfl)) (fun _ _ _ h => h) (Or.inl ⟨by rfl, ?_⟩) ?_ ?_
                                        rotate_left
                                        · intro w'
                                          go_simp
                                          with_reducible rfl
                                        rotate_left
                                        · simp only [Act.put, List.setIfInBounds_toArray, List.set_cons_zero, List.set_cons_succ, i64_w, i32_w]
                                          rfl
                                        refine join_ (σ := Value) 2 #[true, true, true, true, true, true, true, true, false, false] (fun s_ => [(32, s_), (33, .string (strOfNums y178)), (35, .string t181), (34, .string ((a0 ++ (⟨#[0]⟩ : ByteArray)) ++ (strOfNums y178)))]) (fun s_ w' => (Kd.R (Kd.int .u8) 5 w' w.heap.size (fun _ => True) s_ y178) ∧ (Below w.heap.size w w')) ?_ ?_
                                        rotate_left
                                        · intro hCont
                                          refine two_ (i := 4) (j := 7) (Ni := some 32) (Nj := some 35) #[true, true, true, true, true, false, false, false, false, false] #[true, true, true, true, false, false, false, true, false, false] rfl rfl rfl rfl (two_of HT_.out (by kernel_rfl)) (by decide) (by decide) (fun K hK => ?_) (fun K hK => ?_)
                                          · skip
                                            refine Kd.R_lit_step (Kd.int .u8) _ 5 ?hg (N := 32) ?hd (xs := ([(a1) % 256] : List Int)) (inner := [.int .u8 ((a1) % 256)]) (ok := fun _ => True) (okp := fun _ => True) ?hr ?hp (fun _ hk => hk) trivial (Below.refl _ _) (Nat.le_refl _) (by simp) ?_; (case hd => rfl); (case hg => rfl); (case hr => first | (go_simp; done) | (go_simp; rfl)); (case hp => exact (Reps.one (show Kd.M (Kd.int .u8) _ _ _ ((a1) % 256) [.int .u8 ((a1) % 256)] from rfl) (Reps.none _ _)))
                                            intro v179 w43 ho44 hb hg_ hnew_
                                            clear hg_ hnew_
                                            (first | rw [← Ny178.out] at ho44 | (simp only [Int.reduceToNat] at ho44; rw [← Ny178.out] at ho44))
                                            have n0_ := Aside0.mk (Kd.R_lower ho44 (below_size (by repeat (first | (with_reducible first | exact HB.out | apply below_alloc | apply pw_below_drewN | apply below_drew1) | exact HB.out))))
                                            have n1_ := Aside0.mk (below_step (by repeat (first | (with_reducible first | exact HB.out | apply below_alloc | apply pw_below_drewN | apply below_drew1) | exact HB.out)) hb)
                                            clear HB
                                            have HO180 := n0_
                                            have HB := n1_
                                            clear n0_ n1_
                                            clear hb ho44
                                            refine hK.out _ _ trivial (fun hHeld => ?_)
                                            clear hK K
                                            refine norm_ (a' := ?_) ?_ ?_
                                            rotate_left
                                            · show Act.put _ (some 32) _ = _
                                              simp only [Act.put, List.setIfInBounds_toArray, List.set_cons_zero, List.set_cons_succ, i64_w, i32_w]
                                              rfl
                                            refine two_ (i := 5) (j := 7) (Ni := some 33) (Nj := some 35) #[true, true, true, true, true, true, false, false, false, false] #[true, true, true, true, true, false, false, true, false, false] rfl rfl rfl rfl (two_of HT_.out (by kernel_rfl)) (by decide) (by decide) (fun K hK => ?_) (fun K hK => ?_)
                                            · skip
                                              have hcv45 := own_string (P := Try.prog) Try.underlying42 Try.underlying5 Try.underlying9 (Kd.own_of_R HO180.out)
                                              refine value_ (w1 := ?_) (v := ?_) (by rfl) rfl ?_ ?_
                                              rotate_left 2
                                              · go_simp
                                                constructor
                                                · rfl
                                                · rfl
                                              clear hcv45
                                              refine hK.out _ _ trivial (fun hHeld => ?_)
                                              clear hK K
                                              refine norm_ (a' := ?_) ?_ ?_
                                              rotate_left
                                              · show Act.put _ (some 33) _ = _
                                                simp only [Act.put, List.setIfInBounds_toArray, List.set_cons_zero, List.set_cons_succ, i64_w, i32_w]
                                                rfl
                                              refine pure_ (i := 6) (N := some 34) (v := ?_) (a' := ?_) #[true, true, true, true, true, true, true, false, false, false] rfl rfl (any_of HT_.out (by kernel_rfl)) (fun _ _ _ h => h) (Or.inl ⟨by rfl, ?_⟩) ?_ ?_
                                              rotate_left
                                              · intro w'
                                                go_simp
                                                with_reducible rfl
                                              rotate_left
                                              · simp only [Act.put, List.setIfInBounds_toArray, List.set_cons_zero, List.set_cons_succ, i64_w, i32_w]
                                                rfl
                                              refine one_ (i := 7) (N := some 35) #[true, true, true, true, true, true, true, true, false, false] rfl rfl (one_of HT_.out (by kernel_rfl)) (by decide) (fun K hK => ?_)
                                              refine goes_ Try.func23 (by kernel_rfl) rfl #[.int .i64 0] (by rfl) rfl rfl (by (try simp only [List.map_toArray, List.map_cons, List.map_nil]); first | done | rfl | (simp only [List.length_drop, List.length_take]; rfl)) ?_
                                              with_reducible refine (wimplelaw5_pointer.calls 0 t181 _ A10.out).mono ?_
                                              rintro e w46 ⟨rfl, hb⟩
                                              refine ⟨_, rfl, ?_⟩
                                              have n0_ := Aside0.mk (Kd.R_below (by (with_reducible repeat (first | apply Kd.R_alloc | apply Kd.R_drewN | apply Kd.R_drew)); exact HO180.out) hb)
                                              have n1_ := Aside0.mk (below_step (by repeat (first | (with_reducible first | exact HB.out | apply below_alloc | apply pw_below_drewN | apply below_drew1) | exact HB.out)) hb)
                                              clear HO180
                                              clear HB
                                              have HO180 := n0_
                                              have HB := n1_
                                              clear n0_ n1_
                                              (try clear hb)
                                              (try clear hb2)
                                              (try clear hk)
                                              (try clear hi)
                                              refine hK.out _ _ trivial (fun hHeld => ?_)
                                              clear hK K
                                              refine norm_ (a' := ?_) ?_ ?_
                                              rotate_left
                                              · show Act.put _ (some 35) _ = _
                                                simp only [Act.put, List.setIfInBounds_toArray, List.set_cons_zero, List.set_cons_succ, i64_w, i32_w]
                                                rfl
                                              exact norm_ (by simp only [putAll, Act.put, List.setIfInBounds_toArray, List.set_cons_zero, List.set_cons_succ]) (hCont (v179) _ ⟨(by (with_reducible repeat (first | apply Kd.R_alloc | apply Kd.R_drewN | apply Kd.R_drew)); exact HO180.out), (by repeat (first | (with_reducible first | exact HB.out | apply below_alloc | apply pw_below_drewN | apply below_drew1) | exact HB.out))⟩)
                                            · skip
                                              refine goes_ Try.func23 (by kernel_rfl) rfl #[.int .i64 0] (by rfl) rfl rfl (by (try simp only [List.map_toArray, List.map_cons, List.map_nil]); first | done | rfl | (simp only [List.length_drop, List.length_take]; rfl)) ?_
                                              with_reducible refine (wimplelaw5_pointer.calls 0 t181 _ A10.out).mono ?_
                                              rintro e w45 ⟨rfl, hb⟩
                                              refine ⟨_, rfl, ?_⟩
                                              have n0_ := Aside0.mk (Kd.R_below (by (with_reducible repeat (first | apply Kd.R_alloc | apply Kd.R_drewN | apply Kd.R_drew)); exact HO180.out) hb)
                                              have n1_ := Aside0.mk (below_step (by repeat (first | (with_reducible first | exact HB.out | apply below_alloc | apply pw_below_drewN | apply below_drew1) | exact HB.out)) hb)
                                              clear HO180
                                              clear HB
                                              have HO180 := n0_
                                              have HB := n1_
                                              clear n0_ n1_
                                              (try clear hb)
                                              (try clear hb2)
                                              (try clear hk)
                                              (try clear hi)
                                              refine hK.out _ _ trivial (fun hHeld => ?_)
                                              clear hK K
                                              refine norm_ (a' := ?_) ?_ ?_
                                              rotate_left
                                              · show Act.put _ (some 35) _ = _
                                                simp only [Act.put, List.setIfInBounds_toArray, List.set_cons_zero, List.set_cons_succ, i64_w, i32_w]
                                                rfl
                                              refine one_ (i := 5) (N := some 33) #[true, true, true, true, true, true, false, true, false, false] rfl rfl (one_of HT_.out (by kernel_rfl)) (by decide) (fun K hK => ?_)
                                              have hcv46 := own_string (P := Try.prog) Try.underlying42 Try.underlying5 Try.underlying9 (Kd.own_of_R HO180.out)
                                              refine value_ (w1 := ?_) (v := ?_) (by rfl) rfl ?_ ?_
                                              rotate_left 2
                                              · go_simp
                                                constructor
                                                · rfl
                                                · rfl
                                              clear hcv46
                                              refine hK.out _ _ trivial (fun hHeld => ?_)
                                              clear hK K
                                              refine norm_ (a' := ?_) ?_ ?_
                                              rotate_left
                                              · show Act.put _ (some 33) _ = _
                                                simp only [Act.put, List.setIfInBounds_toArray, List.set_cons_zero, List.set_cons_succ, i64_w, i32_w]
                                                rfl
                                              refine pure_ (i := 6) (N := some 34) (v := ?_) (a' := ?_) #[true, true, true, true, true, true, true, true, false, false] rfl rfl (any_of HT_.out (by kernel_rfl)) (fun _ _ _ h => h) (Or.inl ⟨by rfl, ?_⟩) ?_ ?_
                                              rotate_left
                                              · intro w'
                                                go_simp
                                                with_reducible rfl
                                              rotate_left
                                              · simp only [Act.put, List.setIfInBounds_toArray, List.set_cons_zero, List.set_cons_succ, i64_w, i32_w]
                                                rfl
                                              exact norm_ (by simp only [putAll, Act.put, List.setIfInBounds_toArray, List.set_cons_zero, List.set_cons_succ]) (hCont (v179) _ ⟨(by (with_reducible repeat (first | apply Kd.R_alloc | apply Kd.R_drewN | apply Kd.R_drew)); exact HO180.out), (by repeat (first | (with_reducible first | exact HB.out | apply below_alloc | apply pw_below_drewN | apply below_drew1) | exact HB.out))⟩)
                                          · skip
                                            refine goes_ Try.func23 (by kernel_rfl) rfl #[.int .i64 0] (by rfl) rfl rfl (by (try simp only [List.map_toArray, List.map_cons, List.map_nil]); first | done | rfl | (simp only [List.length_drop, List.length_take]; rfl)) ?_
                                            with_reducible refine (wimplelaw5_pointer.calls 0 t181 _ A10.out).mono ?_
                                            rintro e w43 ⟨rfl, hb⟩
                                            refine ⟨_, rfl, ?_⟩
                                            have n0_ := Aside0.mk (below_step (by repeat (first | (with_reducible first | exact HB.out | apply below_alloc | apply pw_below_drewN | apply below_drew1) | exact HB.out)) hb)
                                            clear HB
                                            have HB := n0_
                                            clear n0_
                                            (try clear hb)
                                            (try clear hb2)
                                            (try clear hk)
                                            (try clear hi)
                                            refine hK.out _ _ trivial (fun hHeld => ?_)
                                            clear hK K
                                            refine norm_ (a' := ?_) ?_ ?_
                                            rotate_left
                                            · show Act.put _ (some 35) _ = _
                                              simp only [Act.put, List.setIfInBounds_toArray, List.set_cons_zero, List.set_cons_succ, i64_w, i32_w]
                                              rfl
                                            refine one_ (i := 4) (N := some 32) #[true, true, true, true, true, false, false, true, false, false] rfl rfl (one_of HT_.out (by kernel_rfl)) (by decide) (fun K hK => ?_)
                                            refine Kd.R_lit_step (Kd.int .u8) _ 5 ?hg (N := 32) ?hd (xs := ([(a1) % 256] : List Int)) (inner := [.int .u8 ((a1) % 256)]) (ok := fun _ => True) (okp := fun _ => True) ?hr ?hp (fun _ hk => hk) trivial (Below.refl _ _) (Nat.le_refl _) (by simp) ?_; (case hd => rfl); (case hg => rfl); (case hr => first | (go_simp; done) | (go_simp; rfl)); (case hp => exact (Reps.one (show Kd.M (Kd.int .u8) _ _ _ ((a1) % 256) [.int .u8 ((a1) % 256)] from rfl) (Reps.none _ _)))
                                            intro v179 w44 ho45 hb hg_ hnew_
                                            clear hg_ hnew_
                                            (first | rw [← Ny178.out] at ho45 | (simp only [Int.reduceToNat] at ho45; rw [← Ny178.out] at ho45))
                                            have n0_ := Aside0.mk (Kd.R_lower ho45 (below_size (by repeat (first | (with_reducible first | exact HB.out | apply below_alloc | apply pw_below_drewN | apply below_drew1) | exact HB.out))))
                                            have n1_ := Aside0.mk (below_step (by repeat (first | (with_reducible first | exact HB.out | apply below_alloc | apply pw_below_drewN | apply below_drew1) | exact HB.out)) hb)
                                            clear HB
                                            have HO180 := n0_
                                            have HB := n1_
                                            clear n0_ n1_
                                            clear hb ho45
                                            refine hK.out _ _ trivial (fun hHeld => ?_)
                                            clear hK K
                                            refine norm_ (a' := ?_) ?_ ?_
                                            rotate_left
                                            · show Act.put _ (some 32) _ = _
                                              simp only [Act.put, List.setIfInBounds_toArray, List.set_cons_zero, List.set_cons_succ, i64_w, i32_w]
                                              rfl
                                            refine one_ (i := 5) (N := some 33) #[true, true, true, true, true, true, false, true, false, false] rfl rfl (one_of HT_.out (by kernel_rfl)) (by decide) (fun K hK => ?_)
                                            have hcv46 := own_string (P := Try.prog) Try.underlying42 Try.underlying5 Try.underlying9 (Kd.own_of_R HO180.out)
                                            refine value_ (w1 := ?_) (v := ?_) (by rfl) rfl ?_ ?_
                                            rotate_left 2
                                            · go_simp
                                              constructor
                                              · rfl
                                              · rfl
                                            clear hcv46
                                            refine hK.out _ _ trivial (fun hHeld => ?_)
                                            clear hK K
                                            refine norm_ (a' := ?_) ?_ ?_
                                            rotate_left
                                            · show Act.put _ (some 33) _ = _
                                              simp only [Act.put, List.setIfInBounds_toArray, List.set_cons_zero, List.set_cons_succ, i64_w, i32_w]
                                              rfl
                                            refine pure_ (i := 6) (N := some 34) (v := ?_) (a' := ?_) #[true, true, true, true, true, true, true, true, false, false] rfl rfl (any_of HT_.out (by kernel_rfl)) (fun _ _ _ h => h) (Or.inl ⟨by rfl, ?_⟩) ?_ ?_
                                            rotate_left
                                            · intro w'
                                              go_simp
                                              with_reducible rfl
                                            rotate_left
                                            · simp only [Act.put, List.setIfInBounds_toArray, List.set_cons_zero, List.set_cons_succ, i64_w, i32_w]
                                              rfl
                                            exact norm_ (by simp only [putAll, Act.put, List.setIfInBounds_toArray, List.set_cons_zero, List.set_cons_succ]) (hCont (v179) _ ⟨(by (with_reducible repeat (first | apply Kd.R_alloc | apply Kd.R_drewN | apply Kd.R_drew)); exact HO180.out), (by repeat (first | (with_reducible first | exact HB.out | apply below_alloc | apply pw_below_drewN | apply below_drew1) | exact HB.out))⟩)
                                        rintro v179 w47 ⟨h0_, h1_⟩
                                        have n0_ : Aside0 (Kd.R (Kd.int .u8) 5 w47 w.heap.size (fun _ => True) v179 y178) := ⟨h0_⟩
                                        have n1_ : Aside0 (Below w.heap.size w w47) := ⟨h1_⟩
                                        clear HB
                                        clear h0_ h1_
                                        have HO180 := n0_
                                        have HB := n1_
                                        clear n0_ n1_
                                        have hHeld := trivial
                                        refine norm_ (a' := ?_) ?_ ?_
                                        rotate_left
                                        · simp only [putAll, Act.put, List.setIfInBounds_toArray, List.set_cons_zero, List.set_cons_succ]
                                          rfl
                                        refine pure_ (i := 8) (N := some 36) (v := ?_) (a' := ?_) #[true, true, true, true, true, true, true, true, true, false] rfl rfl (any_of HT_.out (by kernel_rfl)) (fun _ _ _ h => h) (Or.inl ⟨by rfl, ?_⟩) ?_ ?_
                                        rotate_left
                                        · intro w'
                                          go_simp
                                          with_reducible rfl
                                        rotate_left
                                        · simp only [Act.put, List.setIfInBounds_toArray, List.set_cons_zero, List.set_cons_succ, i64_w, i32_w]
                                          rfl
                                        refine pure_ (i := 9) (N := some 7) (v := ?_) (a' := ?_) #[true, true, true, true, true, true, true, true, true, true] rfl rfl (any_of HT_.out (by kernel_rfl)) (fun _ _ _ h => h) (Or.inl ⟨by rfl, ?_⟩) ?_ ?_
                                        rotate_left
                                        · intro w'
                                          go_simp
                                          with_reducible rfl
                                        rotate_left
                                        · simp only [Act.put, List.setIfInBounds_toArray, List.set_cons_zero, List.set_cons_succ, i64_w, i32_w]
                                          rfl
                                        refine done_ (done_of HT_.out (by kernel_rfl)) ?_
                                        try go_wp2_with (first | ((with_reducible refine gate_dst (N := 42) rfl ?_); (try (refine gate_guard (by rfl) ?_; dsimp only)); (with_reducible refine gate_callee (f := 24) rfl ?_); refine goesL_ (some 42) rfl rfl Try.func24 (by kernel_rfl) rfl #[.string (((a0 ++ (⟨#[0]⟩ : ByteArray)) ++ (strOfNums y178)) ++ t181), .int .i64 (a0.size : Int), .int .i64 4, .int .i64 15] rfl (by (try simp only [List.map_toArray, List.map_cons, List.map_nil]); first | done | rfl | (simp only [List.length_drop, List.length_take]; rfl)) ?_; (with_reducible refine (comp_Data.calls k (((a0 ++ (⟨#[0]⟩ : ByteArray)) ++ (strOfNums y178)) ++ t181) (a0.size : Int) 4 15 t182 t183 _ A12.out).mono ?_); rintro e w48 ⟨rfl, hb⟩; refine ⟨_, rfl, ?_⟩; have n0_ := Aside0.mk (Kd.R_below (by (with_reducible repeat (first | apply Kd.R_alloc | apply Kd.R_drewN | apply Kd.R_drew)); exact HO180.out) hb); have n1_ := Aside0.mk (below_step (by repeat (first | (with_reducible first | exact HB.out | apply below_alloc | apply pw_below_drewN | apply below_drew1) | exact HB.out)) hb); clear HO180; clear HB; have HO180 := n0_; have HB := n1_; clear n0_ n1_; (try clear hb); (try clear hb2); (try clear hk); (try clear hi)) | ((with_reducible refine gate_dst (N := 49) rfl ?_); (try (refine gate_guard (by rfl) ?_; dsimp only)); (with_reducible refine gate_callee (f := 24) rfl ?_); refine goesL_ (some 49) rfl rfl Try.func24 (by kernel_rfl) rfl #[.string (((a0 ++ (⟨#[0]⟩ : ByteArray)) ++ (strOfNums y178)) ++ t181), .int .i64 (wrap64 ((a0.size : Int) + 2)), .int .i64 2, .int .i64 2] rfl (by (try simp only [List.map_toArray, List.map_cons, List.map_nil]); first | done | rfl | (simp only [List.length_drop, List.length_take]; rfl)) ?_; (with_reducible refine (comp_Data.calls k (((a0 ++ (⟨#[0]⟩ : ByteArray)) ++ (strOfNums y178)) ++ t181) (wrap64 ((a0.size : Int) + 2)) 2 2 t184 t185 _ A13.out).mono ?_); rintro e w49 ⟨rfl, hb⟩; refine ⟨_, rfl, ?_⟩; have n0_ := Aside0.mk (Kd.R_below (by (with_reducible repeat (first | apply Kd.R_alloc | apply Kd.R_drewN | apply Kd.R_drew)); exact HO180.out) hb); have n1_ := Aside0.mk (below_step (by repeat (first | (with_reducible first | exact HB.out | apply below_alloc | apply pw_below_drewN | apply below_drew1) | exact HB.out)) hb); clear HO180; clear HB; have HO180 := n0_; have HB := n1_; clear n0_ n1_; (try clear hb); (try clear hb2); (try clear hk); (try clear hi)) | ((with_reducible refine gate_dst (N := 55) rfl ?_); (try (refine gate_guard (by rfl) ?_; dsimp only)); (with_reducible refine gate_callee (f := 24) rfl ?_); refine goesL_ (some 55) rfl rfl Try.func24 (by kernel_rfl) rfl #[.string (((a0 ++ (⟨#[0]⟩ : ByteArray)) ++ (strOfNums y178)) ++ t181), .int .i64 (a0.size : Int), .int .i64 4, .int .i64 999] rfl (by (try simp only [List.map_toArray, List.map_cons, List.map_nil]); first | done | rfl | (simp only [List.length_drop, List.length_take]; rfl)) ?_; (with_reducible refine (comp_Data.calls k (((a0 ++ (⟨#[0]⟩ : ByteArray)) ++ (strOfNums y178)) ++ t181) (a0.size : Int) 4 999 t186 t187 _ A14.out).mono ?_); rintro e w50 ⟨rfl, hb⟩; refine ⟨_, rfl, ?_⟩; have n0_ := Aside0.mk (Kd.R_below (by (with_reducible repeat (first | apply Kd.R_alloc | apply Kd.R_drewN | apply Kd.R_drew)); exact HO180.out) hb); have n1_ := Aside0.mk (below_step (by repeat (first | (with_reducible first | exact HB.out | apply below_alloc | apply pw_below_drewN | apply below_drew1) | exact HB.out)) hb); clear HO180; clear HB; have HO180 := n0_; have HB := n1_; clear n0_ n1_; (try clear hb); (try clear hb2); (try clear hk); (try clear hi)) | ((with_reducible refine gate_dst (N := 61) rfl ?_); (try (refine gate_guard (by rfl) ?_; dsimp only)); (with_reducible refine gate_callee (f := 24) rfl ?_); refine goesL_ (some 61) rfl rfl Try.func24 (by kernel_rfl) rfl #[.string (((a0 ++ (⟨#[0]⟩ : ByteArray)) ++ (strOfNums y178)) ++ t181), .int .i64 (a0.size : Int), .int .i64 3, .int .i64 15] rfl (by (try simp only [List.map_toArray, List.map_cons, List.map_nil]); first | done | rfl | (simp only [List.length_drop, List.length_take]; rfl)) ?_; (with_reducible refine (comp_Data.calls k (((a0 ++ (⟨#[0]⟩ : ByteArray)) ++ (strOfNums y178)) ++ t181) (a0.size : Int) 3 15 t188 t189 _ A15.out).mono ?_); rintro e w51 ⟨rfl, hb⟩; refine ⟨_, rfl, ?_⟩; have n0_ := Aside0.mk (Kd.R_below (by (with_reducible repeat (first | apply Kd.R_alloc | apply Kd.R_drewN | apply Kd.R_drew)); exact HO180.out) hb); have n1_ := Aside0.mk (below_step (by repeat (first | (with_reducible first | exact HB.out | apply below_alloc | apply pw_below_drewN | apply below_drew1) | exact HB.out)) hb); clear HO180; clear HB; have HO180 := n0_; have HB := n1_; clear n0_ n1_; (try clear hb); (try clear hb2); (try clear hk); (try clear hi)) | ((with_reducible refine gate_dst (N := 69) rfl ?_); (try (refine gate_guard (by rfl) ?_; dsimp only)); (with_reducible refine gate_callee (f := 24) rfl ?_); refine goesL_ (some 69) rfl rfl Try.func24 (by kernel_rfl) rfl #[.string ((((a0 ++ (⟨#[0]⟩ : ByteArray)) ++ (strOfNums y178)) ++ t181) ++ (⟨#[122]⟩ : ByteArray)), .int .i64 (wrap64 ((a0.size : Int) + 2)), .int .i64 3, .int .i64 5] rfl (by (try simp only [List.map_toArray, List.map_cons, List.map_nil]); first | done | rfl | (simp only [List.length_drop, List.length_take]; rfl)) ?_; (with_reducible refine (comp_Data.calls k ((((a0 ++ (⟨#[0]⟩ : ByteArray)) ++ (strOfNums y178)) ++ t181) ++ (⟨#[122]⟩ : ByteArray)) (wrap64 ((a0.size : Int) + 2)) 3 5 t190 t191 _ A17.out).mono ?_); rintro e w52 ⟨rfl, hb⟩; refine ⟨_, rfl, ?_⟩; have n0_ := Aside0.mk (Kd.R_below (by (with_reducible repeat (first | apply Kd.R_alloc | apply Kd.R_drewN | apply Kd.R_drew)); exact HO180.out) hb); have n1_ := Aside0.mk (below_step (by repeat (first | (with_reducible first | exact HB.out | apply below_alloc | apply pw_below_drewN | apply below_drew1) | exact HB.out)) hb); clear HO180; clear HB; have HO180 := n0_; have HB := n1_; clear n0_ n1_; (try clear hb); (try clear hb2); (try clear hk); (try clear hi)) | ((with_reducible refine gate_dst (N := 78) rfl ?_); (try (refine gate_guard (by rfl) ?_; dsimp only)); (with_reducible refine gate_callee (f := 24) rfl ?_); refine goesL_ (some 78) rfl rfl Try.func24 (by kernel_rfl) rfl #[.string (((a0 ++ (⟨#[0]⟩ : ByteArray)) ++ (strOfNums y178)) ++ t181), .int .i64 (a0.size : Int), .int .i64 (wrap64 (5 + (Go.bits .and .i64 a2 63))), .int .i64 999] rfl (by (try simp only [List.map_toArray, List.map_cons, List.map_nil]); first | done | rfl | (simp only [List.length_drop, List.length_take]; rfl)) ?_; (with_reducible refine (comp_Data.calls k (((a0 ++ (⟨#[0]⟩ : ByteArray)) ++ (strOfNums y178)) ++ t181) (a0.size : Int) (wrap64 (5 + (Go.bits .and .i64 a2 63))) 999 t192 t193 _ A18.out).mono ?_); rintro e w53 ⟨rfl, hb⟩; refine ⟨_, rfl, ?_⟩; have n0_ := Aside0.mk (Kd.R_below (by (with_reducible repeat (first | apply Kd.R_alloc | apply Kd.R_drewN | apply Kd.R_drew)); exact HO180.out) hb); have n1_ := Aside0.mk (below_step (by repeat (first | (with_reducible first | exact HB.out | apply below_alloc | apply pw_below_drewN | apply below_drew1) | exact HB.out)) hb); clear HO180; clear HB; have HO180 := n0_; have HB := n1_; clear n0_ n1_; (try clear hb); (try clear hb2); (try clear hk); (try clear hi)) | ((with_reducible refine gate_dst (N := 84) rfl ?_); (try (refine gate_guard (by rfl) ?_; dsimp only)); (with_reducible refine gate_callee (f := 24) rfl ?_); refine goesL_ (some 84) rfl rfl Try.func24 (by kernel_rfl) rfl #[.string (((a0 ++ (⟨#[0]⟩ : ByteArray)) ++ (strOfNums y178)) ++ t181), .int .i64 0, .int .i64 (a0.size : Int), .int .i64 1] rfl (by (try simp only [List.map_toArray, List.map_cons, List.map_nil]); first | done | rfl | (simp only [List.length_drop, List.length_take]; rfl)) ?_; (with_reducible refine (comp_Data.calls k (((a0 ++ (⟨#[0]⟩ : ByteArray)) ++ (strOfNums y178)) ++ t181) 0 (a0.size : Int) 1 t194 t195 _ A19.out).mono ?_); rintro e w54 ⟨rfl, hb⟩; refine ⟨_, rfl, ?_⟩; have n0_ := Aside0.mk (Kd.R_below (by (with_reducible repeat (first | apply Kd.R_alloc | apply Kd.R_drewN | apply Kd.R_drew)); exact HO180.out) hb); have n1_ := Aside0.mk (below_step (by repeat (first | (with_reducible first | exact HB.out | apply below_alloc | apply pw_below_drewN | apply below_drew1) | exact HB.out)) hb); clear HO180; clear HB; have HO180 := n0_; have HB := n1_; clear n0_ n1_; (try clear hb); (try clear hb2); (try clear hk); (try clear hi)) | ((with_reducible refine gate_dst (N := 88) rfl ?_); (try (refine gate_guard (by rfl) ?_; dsimp only)); (with_reducible refine gate_callee (f := 14) rfl ?_); refine goesL_ (some 88) rfl rfl Try.func14 (by kernel_rfl) rfl #[.int .i64 t183] rfl (by (try simp only [List.map_toArray, List.map_cons, List.map_nil]); first | done | rfl | (simp only [List.length_drop, List.length_take]; rfl)) ?_; (with_reducible refine (wimplelaw0_Num.calls t183 t196 _ A20.out).mono ?_); rintro e w' ⟨rfl, ⟨nd, rfl⟩⟩; refine ⟨_, rfl, ?_⟩) | ((with_reducible refine gate_dst (N := 94) rfl ?_); (try (refine gate_guard (by rfl) ?_; dsimp only)); refine Kd.R_lit (Kd.int .u8) _ 5 ?hg (N := 94) ?hd (xs := ([(a1) % 256] : List Int)) (inner := [.int .u8 ((a1) % 256)]) (ok := fun _ => True) (okp := fun _ => True) ?hr ?hp (fun _ hk => hk) trivial (Below.refl _ _) (Nat.le_refl _) (by simp) ?_; (case hd => rfl); (case hg => rfl); (case hr => first | (go_simp; done) | (go_simp; rfl)); (case hp => exact (Reps.one (show Kd.M (Kd.int .u8) _ _ _ ((a1) % 256) [.int .u8 ((a1) % 256)] from rfl) (Reps.none _ _))); intro v198 w55 ho56 hb hg_ hnew_; clear hg_ hnew_; (first | rw [← Ny197.out] at ho56 | (simp only [Int.reduceToNat] at ho56; rw [← Ny197.out] at ho56)); have n0_ := Aside0.mk (Kd.R_elder' (by (with_reducible repeat (first | apply Kd.R_alloc | apply Kd.R_drewN | apply Kd.R_drew)); exact HO180.out) (Kd.R_base ho56) hb); have n1_ := Aside0.mk (Kd.R_lower (Kd.R_new' ho56 (Kd.R_lt (by (with_reducible repeat (first | apply Kd.R_alloc | apply Kd.R_drewN | apply Kd.R_drew)); exact HO180.out))) (below_size (by repeat (first | (with_reducible first | exact HB.out | apply below_alloc | apply pw_below_drewN | apply below_drew1) | exact HB.out)))); have n2_ := Aside0.mk (below_step (by repeat (first | (with_reducible first | exact HB.out | apply below_alloc | apply pw_below_drewN | apply below_drew1) | exact HB.out)) hb); clear HO180; clear HB; have HO180 := n0_; have HO199 := n1_; have HB := n2_; clear n0_ n1_ n2_; clear hb ho56; have hcv57 := own_string (P := Try.prog) Try.underlying42 Try.underlying5 Try.underlying9 (Kd.own_of_R HO199.out)) | (go_at_call 14; (with_reducible refine (wimplelaw0_Num.calls t185 t200 _ A25.out).mono ?_); rintro e w' ⟨rfl, ⟨nd, rfl⟩⟩) | (go_at_call 14; (with_reducible refine (wimplelaw0_Num.calls t187 t201 _ A28.out).mono ?_); rintro e w' ⟨rfl, ⟨nd, rfl⟩⟩) | (go_at_call 14; (with_reducible refine (wimplelaw0_Num.calls t189 t202 _ A33.out).mono ?_); rintro e w' ⟨rfl, ⟨nd, rfl⟩⟩) | (go_at_call 14; (with_reducible refine (wimplelaw0_Num.calls t191 t203 _ A35.out).mono ?_); rintro e w' ⟨rfl, ⟨nd, rfl⟩⟩) | (go_at_call 14; (with_reducible refine (wimplelaw0_Num.calls t193 t204 _ A37.out).mono ?_); rintro e w' ⟨rfl, ⟨nd, rfl⟩⟩) | (go_at_call 14; (with_reducible refine (wimplelaw0_Num.calls t195 t205 _ A39.out).mono ?_); rintro e w' ⟨rfl, ⟨nd, rfl⟩⟩))
                                        go_ret
                                        exact ⟨by first | rfl | (simp [errW_none, errW_some] <;> rfl) | (simp [*, errW_none, errW_some] <;> rfl), by repeat (first | (with_reducible first | exact HB.out | apply below_alloc | apply pw_below_drewN | apply below_drew1) | exact HB.out)⟩
                                      · rw [if_neg c38] at H
                                        exact absurd H (by simp)
                                    · rw [if_neg c36] at H
                                      exact absurd H (by simp)
                                  · rw [if_neg c34] at H
                                    exact absurd H (by simp)
                                · rw [if_neg c32] at H
                                  exact absurd H (by simp)
                              · rw [if_neg c31] at H
                                exact absurd H (by simp)
                            · rw [if_neg c30] at H
                              exact absurd H (by simp)
                          · rw [if_neg c29] at H
                            exact absurd H (by simp)
                        · rw [if_neg c27] at H
                          exact absurd H (by simp)
                      · rw [if_neg c26] at H
                        exact absurd H (by simp)
                    · rw [if_neg c24] at H
                      exact absurd H (by simp)
                  · rw [if_neg c23] at H
                    exact absurd H (by simp)
                · rw [if_neg c22] at H
                  exact absurd H (by simp)
              · rw [if_neg c21] at H
                exact absurd H (by simp)
            · rw [if_neg c16] at H
              exact absurd H (by simp)
          · rw [if_neg c11] at H
            exact absurd H (by simp)
        · rw [if_neg c9] at H
          exact absurd H (by simp)
      · rw [if_neg c8] at H
        exact absurd H (by simp)
    · replace c7 := Bool.eq_false_iff.mpr c7
      subst c7
      have H1 : (some true) = some r := by rw [if_neg (show ¬ (false = true) by decide)] at H; exact H
      clear H
      have H := H1
      clear H1
      obtain rfl := Option.some.inj H
      go_enter Try.func8, Try.ntmps8
      go_wp2_with (first | ((with_reducible refine gate_dst (N := 23) rfl ?_); (try (refine gate_guard (by rfl) ?_; dsimp only)); (with_reducible refine gate_callee (f := 20) rfl ?_); refine goesL_ (some 23) rfl rfl Try.func20 (by kernel_rfl) rfl #[] rfl (by (try simp only [List.map_toArray, List.map_cons, List.map_nil]); first | done | rfl | (simp only [List.length_drop, List.length_take]; rfl)) ?_; (with_reducible refine (wimplelaw5_awake.calls  true _ A4.out).mono ?_); rintro e w58 ⟨rfl, hb⟩; refine ⟨_, rfl, ?_⟩; have n0_ := Aside0.mk (below_step (by repeat (first | (with_reducible first | exact HB.out | apply below_alloc | apply pw_below_drewN | apply below_drew1) | exact HB.out)) hb); clear HB; have HB := n0_; clear n0_; (try clear hb); (try clear hb2); (try clear hk); (try clear hi)) | ((with_reducible refine gate_dst (N := 26) rfl ?_); (try (refine gate_guard (by rfl) ?_; dsimp only)); (with_reducible refine gate_callee (f := 21) rfl ?_); refine goesL_ (some 26) rfl rfl Try.func21 (by kernel_rfl) rfl #[.string a0] rfl (by (try simp only [List.map_toArray, List.map_cons, List.map_nil]); first | done | rfl | (simp only [List.length_drop, List.length_take]; rfl)) ?_; (with_reducible refine (wimpleref1_May.calls a0 false _ A6.out).mono ?_); rintro e w59 ⟨rfl, hb⟩; refine ⟨_, rfl, ?_⟩; have n0_ := Aside0.mk (below_step (by repeat (first | (with_reducible first | exact HB.out | apply below_alloc | apply pw_below_drewN | apply below_drew1) | exact HB.out)) hb); clear HB; have HB := n0_; clear n0_; (try clear hb); (try clear hb2); (try clear hk); (try clear hi)))
      go_ret
      exact ⟨by first | rfl | (simp [errW_none, errW_some] <;> rfl) | (simp [*, errW_none, errW_some] <;> rfl), by repeat (first | (with_reducible first | exact HB.out | apply below_alloc | apply pw_below_drewN | apply below_drew1) | exact HB.out)⟩
  · replace c5 := Bool.eq_false_iff.mpr c5
    subst c5
    have H1 : (none) = some r := by rw [if_neg (show ¬ (false = true) by decide)] at H; exact H
    clear H
    have H := H1
    clear H1
    exact absurd H (by simp)

/-- THE ONE PURE STATEMENT of wimplelaw5_CompData: yours. -/
def wimplelaw5_CompData.Pure : Prop := ∀ (a0 : ByteArray) (a1 : Int) (a2 : Int), a0.size ≤ 140737488351232 → (Lit.int .i64 a1).wf = true → (Lit.int .i64 a2).wf = true → ∃ k, wimplelaw5_CompData.f k a0 a1 a2 = some true
theorem wimplelaw5_CompData.walk (P : wimplelaw5_CompData.Pure) (a0 : ByteArray) (a1 : Int) (a2 : Int) (w : World) (w0 : a0.size ≤ 140737488351232) (w1 : (Lit.int .i64 a1).wf = true) (w2 : (Lit.int .i64 a2).wf = true) :
    Calls Try.prog 8 #[.string a0, .int .i64 a1, .int .i64 a2] w fun e w' => e = .returned (.bool true) ∧ Below w.heap.size w w' := by
  obtain ⟨k, h⟩ := P a0 a1 a2 w0 w1 w2
  refine (wimplelaw5_CompData.calls k a0 a1 a2 true w h).mono ?_
  rintro e w' ⟨rfl, hd⟩
  exact ⟨rfl, hd⟩

end Go.Proofs.Ytepglkgpgoifkaa.PCl
