/- OptForms: each part of an OPT that may not be: the walk, out of its two halves. -/
import Derived.Test.YtndcjleadggibaaOptBackS
import Derived.Test.YtndcjleadggibaaPOptFx7
import Derived.Test.YtndcjleadggibaaPOptFx8
namespace Go.Proofs.Ytndcjleadggibaa.Pure
open Go.RowKit Go.Proofs.Ytndcjleadggibaa.POptF Go.Proofs.YtndcjleadggibaaW.PrintWords Go.Proofs.Ytndcjleadggibaa.Pu Go.Proofs.Ytndcjleadggibaa.OctS Go.Proofs.Ytndcjleadggibaa.OptS
set_option linter.unusedVariables false
def one : List O := [⟨1, (⟨#[97]⟩ : ByteArray)⟩]
theorem put_first : Ev (fun k => opt_Put.f k 5 0 0 false 0 one) (putYes 5 0 0 false 0 one) := put_ev 5 0 0 false 0 one (by decide)
theorem put_not (s e v : Int) (d : Bool) (z : Int) (l : List O) (hl : l.length ≤ 10) (h : (headOk s e v z && osOk l) = false) : Ev (fun k => opt_Put.f k s e v d z l) putNo := by
  have := put_ev s e v d z l (by omega)
  unfold putR at this
  rw [h] at this
  exact this
theorem no_eq : ((⟨#[]⟩ : ByteArray).toList == ([] : List UInt8) && ((0 : Int) == 0 && ((0 : Int) == 0 && ((0 : Int) == 0 && ((⟨#[]⟩ : ByteArray).toList == ([] : List UInt8)))))) = true := by
  rw [toList_data]; rfl
theorem forms0 (a0 a1 : Int) (h : (IntKind.u64.wrap a0).tmod 10 < 5) (h0 : 0 ≤ (IntKind.u64.wrap a0).tmod 10) : Ev (fun k => wimplelaw8_OptForms_0.f k a0 a1) true := by
  unfold wimplelaw8_OptForms_0.f
  refine Ev.bind awake_ev (Ev.pos rfl (Ev.call rfl (Ev.bind put_first ?_)))
  generalize (IntKind.u64.wrap a0).tmod 10 = q at *
  rw [and_63, w64 (x := 1 + a1 % 64) (by omega) (by omega), w64 (x := -(1 + a1 % 64)) (by omega) (by omega), w64 (x := 65535 + (1 + a1 % 64)) (by omega) (by omega), w64 (x := 255 + (1 + a1 % 64)) (by omega) (by omega)]
  by_cases q0 : q = 0
  · refine Ev.pos q0 (Ev.bind (put_not _ _ _ _ _ one (by decide) ?_) (Ev.call (num_eq _) (Ev.pos rfl (Ev.pos no_eq (Ev.call (num_eq _) (Ev.some _ fun _ => rfl))))))
    unfold headOk; rw [decide_eq_false (show ¬ 0 ≤ -(1 + a1 % 64) by omega)]; rfl
  refine Ev.neg q0 ?_
  by_cases q1 : q = 1
  · refine Ev.pos q1 (Ev.bind (put_not _ _ _ _ _ one (by decide) ?_) (Ev.call (num_eq _) (Ev.pos rfl (Ev.pos no_eq (Ev.call (num_eq _) (Ev.some _ fun _ => rfl))))))
    unfold headOk; rw [decide_eq_false (show ¬ 65535 + (1 + a1 % 64) ≤ 65535 by omega)]; simp
  refine Ev.neg q1 ?_
  by_cases q2 : q = 2
  · refine Ev.pos q2 (Ev.bind (put_not _ _ _ _ _ one (by decide) ?_) (Ev.call (num_eq _) (Ev.pos rfl (Ev.pos no_eq (Ev.call (num_eq _) (Ev.some _ fun _ => rfl))))))
    unfold headOk; rw [decide_eq_false (show ¬ 255 + (1 + a1 % 64) ≤ 255 by omega)]; simp
  refine Ev.neg q2 ?_
  by_cases q3 : q = 3
  · refine Ev.pos q3 (Ev.bind (put_not _ _ _ _ _ one (by decide) ?_) (Ev.call (num_eq _) (Ev.pos rfl (Ev.pos no_eq (Ev.call (num_eq _) (Ev.some _ fun _ => rfl))))))
    unfold headOk; rw [decide_eq_false (show ¬ 0 ≤ -(1 + a1 % 64) by omega)]; simp
  refine Ev.neg q3 ?_
  have q4 : q = 4 := by omega
  refine Ev.pos q4 (Ev.bind (put_not _ _ _ _ _ one (by decide) ?_) (Ev.call (num_eq _) (Ev.pos rfl (Ev.pos no_eq (Ev.call (num_eq _) (Ev.some _ fun _ => rfl))))))
  unfold headOk; rw [decide_eq_false (show ¬ 255 + (1 + a1 % 64) ≤ 255 by omega)]; simp
theorem forms1 (a0 a1 : Int) (h : ¬ (IntKind.u64.wrap a0).tmod 10 < 5) : Ev (fun k => wimplelaw8_OptForms_1.f k a0 a1) true := by
  unfold wimplelaw8_OptForms_1.f
  refine Ev.bind awake_ev (Ev.pos rfl (Ev.call rfl (Ev.bind put_first ?_)))
  generalize (IntKind.u64.wrap a0).tmod 10 = q at *
  rw [and_63, w64 (x := 1 + a1 % 64) (by omega) (by omega), w64 (x := -(1 + a1 % 64)) (by omega) (by omega), w64 (x := 65535 + (1 + a1 % 64)) (by omega) (by omega), w64 (x := 32767 + (1 + a1 % 64)) (by omega) (by omega)]
  refine Ev.neg (by omega) (Ev.neg (by omega) (Ev.neg (by omega) (Ev.neg (by omega) (Ev.neg (by omega) ?_))))
  by_cases q0 : q = 5
  · refine Ev.pos q0 (Ev.bind (put_not _ _ _ _ _ one (by decide) ?_) (Ev.call (num_eq _) (Ev.pos rfl (Ev.pos no_eq (Ev.call (num_eq _) (Ev.some _ fun _ => rfl))))))
    unfold headOk; rw [decide_eq_false (show ¬ 32767 + (1 + a1 % 64) ≤ 32767 by omega)]; simp
  refine Ev.neg q0 ?_
  by_cases q1 : q = 6
  · refine Ev.pos q1 (Ev.bind (put_not _ _ _ _ _ one (by decide) ?_) (Ev.call (num_eq _) (Ev.pos rfl (Ev.pos no_eq (Ev.call (num_eq _) (Ev.some _ fun _ => rfl))))))
    unfold headOk; rw [decide_eq_false (show ¬ 0 ≤ -(1 + a1 % 64) by omega)]; simp
  refine Ev.neg q1 ?_
  by_cases q2 : q = 7
  · refine Ev.pos q2 (Ev.pos (by decide) (Ev.bind (put_not _ _ _ _ _ _ (by simp) ?_) (Ev.call (num_eq _) (Ev.pos rfl (Ev.pos no_eq (Ev.call (num_eq _) (Ev.some _ fun _ => rfl)))))))
    have : osOk [(⟨65535 + (1 + a1 % 64), (⟨#[97]⟩ : ByteArray)⟩ : O)] = false := by
      unfold osOk oOk
      simp only [List.all_cons, List.all_nil]
      rw [decide_eq_false (show ¬ 65535 + (1 + a1 % 64) ≤ 65535 by omega)]; simp
    show (headOk 5 0 0 0 && osOk [(⟨65535 + (1 + a1 % 64), (⟨#[97]⟩ : ByteArray)⟩ : O)]) = false
    rw [this]; simp
  refine Ev.neg q2 ?_
  obtain ⟨m, hm⟩ := Int.eq_ofNat_of_zero_le (show 0 ≤ 65535 + (1 + a1 % 64) by omega)
  rw [hm, Int.toNat_natCast]
  by_cases q3 : q = 8
  · refine Ev.pos q3 (Ev.pos (by omega) (Ev.pos (by omega) (Ev.pos (by decide) (Ev.bind (put_not _ _ _ _ _ _ (by simp) ?_) (Ev.call (num_eq _) (Ev.pos rfl (Ev.pos no_eq (Ev.call (num_eq _) (Ev.some _ fun _ => rfl)))))))))
    have : osOk [(⟨1, strOfNums (List.replicate m (0 : Int))⟩ : O)] = false := by
      unfold osOk oOk
      simp only [List.all_cons, List.all_nil, nums_size, List.length_replicate]
      rw [decide_eq_false (show ¬ m ≤ 65535 by omega)]; simp
    show (headOk 5 0 0 0 && osOk [(⟨1, strOfNums (List.replicate m (0 : Int))⟩ : O)]) = false
    rw [this]; simp
  have hz : (strOfNums (List.replicate 65530 (0 : Int))).size = 65530 := by rw [nums_size, List.length_replicate]
  generalize strOfNums (List.replicate 65530 (0 : Int)) = z at *
  refine Ev.neg q3 (Ev.pos (by decide) (Ev.pos (by decide) (Ev.bind (put_not _ _ _ _ _ _ (by show 2 ≤ 10; decide) ?_) (Ev.call (num_eq _) (Ev.pos rfl (Ev.pos no_eq (Ev.call (num_eq _) (Ev.some _ fun _ => rfl))))))))
  have : osOk [(⟨1, (⟨#[97]⟩ : ByteArray)⟩ : O), ⟨0, z⟩] = false := by
    unfold osOk
    rw [osB_cons, osB_cons, List.length_append, List.length_append, oB_length, oB_length, decide_eq_false, Bool.and_false]
    show ¬ 4 + 1 + (4 + z.size + 0) ≤ 65535; omega
  show (headOk 5 0 0 0 && osOk [(⟨1, (⟨#[97]⟩ : ByteArray)⟩ : O), ⟨0, z⟩]) = false
  rw [this, Bool.and_false]
theorem formsWalk (a0 a1 : Int) (W : World) (w0 : (Lit.int .i64 a0).wf = true) (w1 : (Lit.int .i64 a1).wf = true) :
    Calls Try.prog 5 #[.int .i64 a0, .int .i64 a1] W fun e w' => e = .returned (.bool true) ∧ Below W.heap.size W w' := by
  have h0 : 0 ≤ (IntKind.u64.wrap a0).tmod 10 := Int.tmod_nonneg _ (by rw [u64_wrap]; omega)
  by_cases h : (IntKind.u64.wrap a0).tmod 10 < 5
  · obtain ⟨k, hk⟩ := Ev.rounds (forms0 a0 a1 h h0)
    exact wimplelaw8_OptForms_0.calls k a0 a1 true W hk
  · obtain ⟨k, hk⟩ := Ev.rounds (forms1 a0 a1 h)
    exact wimplelaw8_OptForms_1.calls k a0 a1 true W hk
end Go.Proofs.Ytndcjleadggibaa.Pure
