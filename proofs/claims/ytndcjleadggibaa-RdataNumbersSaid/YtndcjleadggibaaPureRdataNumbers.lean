/- The pure statement of RdataNumbers: numbers that do not fit are refused. -/
import Derived.Test.YtndcjleadggibaaRdS
import Derived.Test.YtndcjleadggibaaPRdax6
namespace Go.Proofs.Ytndcjleadggibaa.Pure
open Go.RowKit Go.Proofs.Ytndcjleadggibaa.PRda Go.Proofs.Ytndcjleadggibaa.Pu Go.Proofs.Ytndcjleadggibaa.Rd Go.Proofs.Ytndcjleadggibaa.RdS Go.Proofs.Ytndcjleadggibaa.Nm
open Go.Proofs.YtndcjleadggibaaW.PrintWords (Ev Ev.of Ev.bind Ev.step Ev.rounds rd)
set_option linter.unusedVariables false
theorem numbers_j0 (a1 bad : Int) (h0 h1 : ByteArray) (a b c d e : Int) (hb : (Soa.mk h0 h1 a b c d e).ok = false) (hw : wideB bad = false) :
    Ev (fun k => wimplelaw4_RdataNumbers.j0 k a1 sN 0 bad h0 h1 a b c d e) true := by
  refine Ev.step (fun k => by rw [wimplelaw4_RdataNumbers.j0]) ?_
  refine Ev.call (a := (emp, 400)) (by show some ((Soa.mk h0 h1 a b c d e).S, (Soa.mk h0 h1 a b c d e).E) = _; unfold Soa.S Soa.E; rw [hb]; rfl) ?_
  refine Ev.call (a := (emp, 400)) (by show some (aS bad, aE bad) = _; unfold aS aE; rw [hw]; rfl) ?_
  rw [and_1023, w64 (by omega) (by omega)]
  have hm : mxB (65536 + a1 % 1024) (⟨#[0]⟩ : ByteArray) = false := by unfold mxB; rw [decide_eq_false (show ¬ (65536 + a1 % 1024 ≤ 65535) by omega)]; simp
  refine Ev.call (a := (emp, 400)) (by show some (mxS _ _, mxE _ _) = _; unfold mxS mxE; rw [hm]; rfl) ?_
  have hh : hostB 16 (⟨#[0]⟩ : ByteArray) = false := by unfold hostB; simp
  refine Ev.call (a := (emp, 400)) (by rw [host_eq _ _ (by decide)]; unfold hostS hostE; rw [hh]; rfl) ?_
  refine Ev.call (num_eq _) (Ev.pos rfl (Ev.pos (by decide) (Ev.pos (isB _ _ rfl) (Ev.call (num_eq _) (Ev.pos rfl (Ev.call (num_eq _) (Ev.pos rfl (Ev.call (num_eq _) (Ev.pos rfl (Ev.call (num_eq _) (Ev.some _ fun _ => rfl)))))))))))
theorem RdataNumbers : wimplelaw4_RdataNumbers.Pure := by
  intro a0 a1 _ _
  refine Ev.rounds ?_
  unfold wimplelaw4_RdataNumbers.f
  refine Ev.bind awake_ev (Ev.pos rfl ?_)
  have so : (Soa.mk s0 sP 1 2 3 4 5).ok = true := by unfold Soa.ok; simp only; rw [aw_n0, nm_p]; decide
  refine Ev.call (a := (sN, 0)) (by show some ((Soa.mk s0 sP 1 2 3 4 5).S, (Soa.mk s0 sP 1 2 3 4 5).E) = _; unfold Soa.S Soa.E; rw [so]; decide +kernel) ?_
  refine Ev.call rfl ?_
  rw [and_1, and_1023, w64 (x := -1 - a1 % 1024) (by omega) (by omega), w64 (x := 4294967296 + a1 % 1024) (by omega) (by omega)]
  refine Ev.pos (by omega) (Ev.pos (by simp; omega) ?_)
  obtain ⟨bad, hbad, hw⟩ : ∃ bad, rd [-1 - a1 % 1024, 4294967296 + a1 % 1024] (a1 / 1024 % 2) = bad ∧ wideB bad = false := by
    rcases (show a1 / 1024 % 2 = 0 ∨ a1 / 1024 % 2 = 1 by omega) with h | h
    · refine ⟨-1 - a1 % 1024, by rw [h]; rfl, ?_⟩
      unfold wideB; rw [decide_eq_false (show ¬ 0 ≤ -1 - a1 % 1024 by omega)]; rfl
    · refine ⟨4294967296 + a1 % 1024, by rw [h]; rfl, ?_⟩
      unfold wideB; rw [decide_eq_false (show ¬ 4294967296 + a1 % 1024 ≤ 4294967295 by omega)]; simp
  rw [hbad]
  have na : nameB (⟨#[97]⟩ : ByteArray) = false := nm_a
  have ne : nameB (⟨#[]⟩ : ByteArray) = false := nm_e
  generalize (IntKind.u64.wrap a0).tmod 7 = q
  by_cases q0 : q = 0
  · exact Ev.pos q0 (numbers_j0 a1 bad _ _ _ _ _ _ _ (by unfold Soa.ok; simp only; rw [hw]; simp) hw)
  refine Ev.neg q0 ?_
  by_cases q1 : q = 1
  · exact Ev.pos q1 (numbers_j0 a1 bad _ _ _ _ _ _ _ (by unfold Soa.ok; simp only; rw [hw]; simp) hw)
  refine Ev.neg q1 ?_
  by_cases q2 : q = 2
  · exact Ev.pos q2 (numbers_j0 a1 bad _ _ _ _ _ _ _ (by unfold Soa.ok; simp only; rw [hw]; simp) hw)
  refine Ev.neg q2 ?_
  by_cases q3 : q = 3
  · exact Ev.pos q3 (numbers_j0 a1 bad _ _ _ _ _ _ _ (by unfold Soa.ok; simp only; rw [hw]; simp) hw)
  refine Ev.neg q3 ?_
  by_cases q4 : q = 4
  · exact Ev.pos q4 (numbers_j0 a1 bad _ _ _ _ _ _ _ (by unfold Soa.ok; simp only; rw [hw]; simp) hw)
  refine Ev.neg q4 ?_
  by_cases q5 : q = 5
  · exact Ev.pos q5 (numbers_j0 a1 bad _ _ _ _ _ _ _ (by unfold Soa.ok; simp only; rw [na]; simp) hw)
  · exact Ev.neg q5 (numbers_j0 a1 bad _ _ _ _ _ _ _ (by unfold Soa.ok; simp only; rw [ne]; simp) hw)
end Go.Proofs.Ytndcjleadggibaa.Pure
