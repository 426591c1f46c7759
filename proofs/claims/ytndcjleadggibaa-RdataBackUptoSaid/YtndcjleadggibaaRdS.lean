/- What wimplelaw4.awake answers, from some number of rounds on; small facts for the laws of rdata. -/
import Derived.Test.YtndcjleadggibaaRdAw
import Derived.Test.YtndcjleadggibaaPure
import Derived.Test.YtndcjleadggibaaPRdTx2
import Derived.Test.YtndcjleadggibaaPRdTx3
namespace Go.Proofs.Ytndcjleadggibaa.RdS
open Go.RowKit Go.Proofs.Ytndcjleadggibaa.PRdT Go.Proofs.Ytndcjleadggibaa.Pu Go.Proofs.Ytndcjleadggibaa.Rd
open Go.Proofs.YtndcjleadggibaaW.PrintWords (Ev Ev.of Ev.bind Ev.step Ev.rounds)
set_option linter.unusedVariables false
theorem num_eq (x : Int) : wimplelaw0_Num.f x = some x := rfl
theorem isB (s : ByteArray) (l : List UInt8) (h : s.data.toList = l) : s.toList = l := by rw [toList_data]; exact h
theorem may_eq (t : Int) (s : ByteArray) (h : s.size ≤ 9223372036854775000) : rdata_May.f t s = some (mayD t s) := by unfold rdata_May.f; rw [if_pos h]
theorem host_eq (t : Int) (s : ByteArray) (h : s.size ≤ 9223372036854775000) : rdata_Host.f t s = some (hostS t s, hostE t s) := by unfold rdata_Host.f; rw [if_pos h]
theorem unsoa_eq (s : ByteArray) (h : s.size ≤ 9223372036854775000) : rdata_Unsoa.f s = some ((unX s).host, (unX s).mail, (unX s).s0, (unX s).s1, (unX s).s2, (unX s).s3, (unX s).s4, unE s) := by unfold rdata_Unsoa.f; rw [if_pos h]
theorem txt2 : Ev (fun k => rdata_Txt.f k [(⟨#[97, 98]⟩ : ByteArray), (⟨#[]⟩ : ByteArray)]) (sT, 0) := Ev.of (rdata_Txt.mono _) (k := 6) (by decide +kernel)
theorem awake_ev : Ev (fun k => wimplelaw4_awake.f k) true := by
  unfold wimplelaw4_awake.f
  refine Ev.call (a := (sA, 0)) (by show some (aS 258, aE 258) = _; rw [aw_a, aw_ae]) ?_
  refine Ev.call (a := (258, 0)) (by unfold rdata_Addr.f; rw [if_pos (by decide), aw_x, aw_xe]) ?_
  refine Ev.call (a := (sM, 0)) (by show some (mxS 5 sH, mxE 5 sH) = _; rw [aw_m, aw_me]) ?_
  refine Ev.call (a := (sH, 0)) (by rw [host_eq _ _ (by decide), aw_h, aw_he]) ?_
  refine Ev.call (a := (sS, 0)) (by show some (xS.S, xS.E) = _; rw [aw_s, aw_se]) ?_
  refine Ev.call (a := (s0, s0, 0, 0, 0, 0, 7, 0)) (by rw [unsoa_eq _ (by decide), aw_u, aw_ue]) ?_
  refine Ev.bind txt2 ?_
  refine Ev.call (a := (emp, 400)) (by show some (aS (-1), aE (-1)) = _; rw [aw_b, aw_be]) ?_
  refine Ev.pos (isB _ _ rfl) (Ev.call (num_eq _) (Ev.pos rfl (Ev.pos rfl (Ev.call (num_eq _) (Ev.pos rfl ?_)))))
  refine Ev.pos (isB _ _ rfl) (Ev.call (num_eq _) (Ev.pos rfl ?_))
  refine Ev.pos (isB _ _ rfl) (Ev.call (num_eq _) (Ev.pos rfl ?_))
  refine Ev.pos (by decide) (Ev.call (num_eq _) (Ev.pos rfl (Ev.pos rfl (Ev.call (num_eq _) (Ev.pos rfl ?_)))))
  refine Ev.pos (isB _ _ rfl) (Ev.call (num_eq _) (Ev.pos rfl (Ev.call (num_eq _) (Ev.pos rfl ?_))))
  refine Ev.call (a := true) (by rw [may_eq _ _ (by decide), aw_m1]) (Ev.pos rfl ?_)
  refine Ev.call (a := false) (by rw [may_eq _ _ (by decide)]; exact congrArg some aw_m2) (Ev.neg (by simp) ?_)
  refine Ev.call (a := false) (by rw [may_eq _ _ (by decide)]; exact congrArg some aw_m3) (Ev.some _ fun _ => rfl)
end Go.Proofs.Ytndcjleadggibaa.RdS
