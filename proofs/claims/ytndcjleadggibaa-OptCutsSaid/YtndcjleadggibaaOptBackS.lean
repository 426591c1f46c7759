/- Options written and read again; awake. -/
import Derived.Test.YtndcjleadggibaaOptPut
import Derived.Test.YtndcjleadggibaaOptGet
import Derived.Test.YtndcjleadggibaaPOptx5
import Derived.Test.YtndcjleadggibaaPOptx6
namespace Go.Proofs.Ytndcjleadggibaa.OptS
open Go.RowKit Go.Proofs.Ytndcjleadggibaa.POpt Go.Proofs.YtndcjleadggibaaW.PrintWords Go.Proofs.Ytndcjleadggibaa.Pu Go.Proofs.Ytndcjleadggibaa.OctS
set_option linter.unusedVariables false
theorem awake_ev : Ev (fun k => wimplelaw8_awake.f k) true := Ev.of wimplelaw8_awake.mono (k := 40) (by decide +kernel)
theorem num_eq (x : Int) : wimplelaw0_Num.f x = some x := rfl
theorem oOk_iff {x : O} : oOk x = true ↔ 0 ≤ x.f0 ∧ x.f0 ≤ 65535 ∧ x.f1.size ≤ 65535 := by
  unfold oOk; simp only [Bool.and_eq_true, decide_eq_true_eq]; omega
theorem oB_eq (x : O) (rest : List Int) : oB x ++ rest = (x.f0 / 256) % 256 :: x.f0 % 256 :: ((x.f1.size : Int) / 256) % 256 :: (x.f1.size : Int) % 256 :: (bytesOf x.f1 ++ rest) := by
  unfold oB p16; simp
theorem oB_range (x : O) : ∀ y ∈ oB x, 0 ≤ y ∧ y ≤ 255 := by
  intro y hy
  unfold oB at hy
  rcases List.mem_append.1 hy with hy | hy
  · rcases List.mem_append.1 hy with hy | hy
    · exact p16_range _ y hy
    · exact p16_range _ y hy
  · exact byte_range hy
theorem osB_range (l : List O) : ∀ y ∈ osB l, 0 ≤ y ∧ y ≤ 255 := by
  intro y hy
  obtain ⟨x, _, h⟩ := List.mem_flatMap.1 hy
  exact oB_range x y h
theorem parse_cons (x : O) (ho : oOk x = true) (rest : List Int) : parse (oB x ++ rest) = (parse rest).map fun os => x :: os := by
  obtain ⟨h0, h1, h2⟩ := oOk_iff.1 ho
  rw [oB_eq, parse]
  have hn : (((x.f1.size : Int) / 256) % 256 * 256 + (x.f1.size : Int) % 256).toNat = x.f1.size := by omega
  have hc : (x.f0 / 256) % 256 * 256 + x.f0 % 256 = x.f0 := by omega
  have hl : (bytesOf x.f1).length = x.f1.size := bytesOf_length _
  rw [hn, if_pos (by rw [List.length_append]; omega), hc, ← hl, List.drop_left, List.take_left, nums_bytesOf]
theorem parse_osB : ∀ (l : List O), l.all oOk = true → parse (osB l) = some l
  | [], _ => by rw [show osB [] = [] from rfl, parse]
  | x :: l, h => by
    rw [List.all_cons, Bool.and_eq_true] at h
    rw [osB_cons, parse_cons x h.1, parse_osB l h.2]; rfl
/-- One option, cut: none. -/
theorem parse_cut (x : O) (ho : oOk x = true) (c : Nat) (h0 : 0 < c) (hc : c < 4 + x.f1.size) : parse ((oB x).take c) = none := by
  obtain ⟨_, _, h2⟩ := oOk_iff.1 ho
  have hl := oB_length x
  by_cases h4 : c < 4
  · refine parse_short ?_ (by rw [List.length_take]; omega)
    intro e
    have h := congrArg List.length e
    rw [List.length_take, List.length_nil] at h
    omega
  · obtain ⟨m, rfl⟩ : ∃ m, c = m + 4 := ⟨c - 4, by omega⟩
    have e := oB_eq x []
    rw [List.append_nil, List.append_nil] at e
    rw [e]
    simp only [List.take_succ_cons]
    rw [parse]
    have hn : (((x.f1.size : Int) / 256) % 256 * 256 + (x.f1.size : Int) % 256).toNat = x.f1.size := by omega
    rw [hn, if_neg (by rw [List.length_take, bytesOf_length]; omega)]
end Go.Proofs.Ytndcjleadggibaa.OptS
