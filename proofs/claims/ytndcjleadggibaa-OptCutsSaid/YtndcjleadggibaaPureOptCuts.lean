/- The pure statement of OptCuts: an OPT's data that is cut, another name, another type is none. -/
import Derived.Test.YtndcjleadggibaaOptBackS
import Derived.Test.YtndcjleadggibaaPOptx8
namespace Go.Proofs.Ytndcjleadggibaa.Pure
open Go.RowKit Go.Proofs.Ytndcjleadggibaa.POpt Go.Proofs.YtndcjleadggibaaW.PrintWords Go.Proofs.Ytndcjleadggibaa.Pu Go.Proofs.Ytndcjleadggibaa.OctS Go.Proofs.Ytndcjleadggibaa.OptS
set_option linter.unusedVariables false
theorem cut_size (x : O) (c : Nat) : bytesOf ((strOfNums (osB [x])).extract 0 c) = (oB x).take c := by
  rw [bytesOf_extract, bytesOf_nums (osB_range [x]), List.drop_zero]
  show List.take c (oB x ++ []) = _
  rw [List.append_nil]
theorem cuts_j1 (a1 a2 : Int) (d : ByteArray) (hd : d.size ≤ 500) : Ev (fun k => wimplelaw8_OptCuts.j1 k a1 a2 false (⟨#[0]⟩ : ByteArray) 41 0 0 (strOfNums (osB [⟨7, d⟩]))) true := by
  have ho : oOk (⟨7, d⟩ : O) = true := oOk_iff.2 ⟨by show (0 : Int) ≤ 7; omega, by show (7 : Int) ≤ 65535; omega, by show d.size ≤ 65535; omega⟩
  have hz : (strOfNums (osB [(⟨7, d⟩ : O)])).size = 4 + d.size := by
    rw [nums_size]; show (oB _ ++ []).length = _; rw [List.append_nil, oB_length]
  refine Ev.step (fun k => by rw [wimplelaw8_OptCuts.j1]) (Ev.neg (by simp) ?_)
  rw [hz, w64 (x := ((4 + d.size : Nat) : Int) - 1) (by omega) (by omega), u64_wrap, u64_wrap]
  rw [show ((4 + d.size : Nat) : Int) - 1 = ((3 + d.size : Nat) : Int) by omega, show ((3 + d.size : Nat) : Int) % 18446744073709551616 = ((3 + d.size : Nat) : Int) by omega]
  have m0 : 0 ≤ (a1 % 18446744073709551616).tmod ((3 + d.size : Nat) : Int) := Int.tmod_nonneg _ (by omega)
  have m1 : (a1 % 18446744073709551616).tmod ((3 + d.size : Nat) : Int) < ((3 + d.size : Nat) : Int) := Int.tmod_lt_of_pos _ (by omega)
  generalize (a1 % 18446744073709551616).tmod ((3 + d.size : Nat) : Int) = m at *
  obtain ⟨m, rfl⟩ := Int.eq_ofNat_of_zero_le m0
  rw [w64 (x := (m : Int)) (by omega) (by omega), w64 (x := 1 + (m : Int)) (by omega) (by omega)]
  refine Ev.neg (by omega) (Ev.pos (by omega) (Ev.pos (by omega) ?_))
  rw [show (1 + (m : Int)).toNat = 1 + m by omega]
  have g1 : getR (⟨#[0]⟩ : ByteArray) 41 0 0 ((strOfNums (osB [(⟨7, d⟩ : O)])).extract 0 (1 + m)) = getNo := by
    unfold getR getB optsOf
    rw [cut_size, parse_cut _ ho _ (by omega) (by show _ < 4 + d.size; omega)]; rfl
  have g2 : getR (⟨#[1, 97, 0]⟩ : ByteArray) 41 0 0 (strOfNums (osB [(⟨7, d⟩ : O)])) = getNo := by
    unfold getR getB
    rw [decide_eq_false (show ¬ (⟨#[1, 97, 0]⟩ : ByteArray) = ⟨#[0]⟩ by decide)]; simp
  have e2 : optsOf (strOfNums (osB [(⟨7, d⟩ : O)])) = ([⟨7, d⟩], true) := by
    unfold optsOf
    rw [bytesOf_nums (osB_range _), parse_osB _ (by simp [ho])]; rfl
  have G1 := get_ev (⟨#[0]⟩ : ByteArray) 41 0 0 ((strOfNums (osB [(⟨7, d⟩ : O)])).extract 0 (1 + m)) (by rw [ByteArray.size_extract, hz]; omega)
  have G2 := get_ev (⟨#[1, 97, 0]⟩ : ByteArray) 41 0 0 (strOfNums (osB [(⟨7, d⟩ : O)])) (by rw [hz]; omega)
  have G3 := get_ev (⟨#[0]⟩ : ByteArray) a2 0 0 (strOfNums (osB [(⟨7, d⟩ : O)])) (by rw [hz]; omega)
  rw [g1] at G1
  rw [g2] at G2
  refine Ev.bind G1 (Ev.bind G2 (Ev.bind G3 (Ev.call (num_eq _) (Ev.pos rfl (Ev.call (num_eq _) (Ev.pos rfl (Ev.call (num_eq _) (Ev.some _ fun _ => ?_))))))))
  unfold getR getB
  rw [e2, hz]
  by_cases h : a2 = 41
  · subst h
    rw [decide_eq_true (show 4 + d.size ≤ 65535 by omega)]; rfl
  · rw [decide_eq_false h]; simp [getNo, h]
theorem cuts_j0 (a1 a2 : Int) (d : ByteArray) (hd : d.size ≤ 500) : Ev (fun k => wimplelaw8_OptCuts.j0 k a1 a2 d) true := by
  have ho : oOk (⟨7, d⟩ : O) = true := oOk_iff.2 ⟨by show (0 : Int) ≤ 7; omega, by show (7 : Int) ≤ 65535; omega, by show d.size ≤ 65535; omega⟩
  have hl : (osB [(⟨7, d⟩ : O)]).length = 4 + d.size := by show (oB _ ++ []).length = _; rw [List.append_nil, oB_length]
  have e : putR 0 0 0 false 0 [(⟨7, d⟩ : O)] = putYes 0 0 0 false 0 [⟨7, d⟩] := by
    unfold putR osOk
    rw [hl, decide_eq_true (show 4 + d.size ≤ 65535 by omega)]; simp [headOk, ho]
  have P := put_ev 0 0 0 false 0 [(⟨7, d⟩ : O)] (by simp)
  rw [e] at P
  refine Ev.step (fun k => by rw [wimplelaw8_OptCuts.j0]) (Ev.bind P (Ev.call (num_eq _) (Ev.pos rfl ?_)))
  have hz : (((strOfNums (osB [(⟨7, d⟩ : O)])).size : Int) != wrap64 ((d.size : Int) + 4)) = false := by
    rw [nums_size, hl, w64 (by omega) (by omega)]; simp; omega
  show Ev (fun k => wimplelaw8_OptCuts.j1 k a1 a2 (((strOfNums (osB [(⟨7, d⟩ : O)])).size : Int) != wrap64 ((d.size : Int) + 4)) (⟨#[0]⟩ : ByteArray) 41 0 0 (strOfNums (osB [⟨7, d⟩]))) true
  rw [hz]
  exact cuts_j1 a1 a2 d hd
theorem OptCuts : wimplelaw8_OptCuts.Pure := by
  intro a0 a1 a2 h0 h1 h2
  refine Ev.rounds ?_
  unfold wimplelaw8_OptCuts.f
  refine Ev.bind awake_ev (Ev.pos rfl ?_)
  by_cases h : (a0.size : Int) > 500
  · refine Ev.pos h (Ev.pos (by decide) (Ev.pos (by omega) ?_))
    exact cuts_j0 a1 a2 _ (by rw [ByteArray.size_extract]; omega)
  · exact Ev.neg h (cuts_j0 a1 a2 a0 (by omega))
end Go.Proofs.Ytndcjleadggibaa.Pure
