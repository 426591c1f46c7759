/- What rdata.Txt answers, from some number of rounds on. -/
import Derived.Test.YtndcjleadggibaaRdAw
import Derived.Test.YtndcjleadggibaaPure
import Derived.Test.YtndcjleadggibaaPRdTx2
namespace Go.Proofs.Ytndcjleadggibaa.RdS
open Go.RowKit Go.Proofs.Ytndcjleadggibaa.PRdT Go.Proofs.Ytndcjleadggibaa.Pu Go.Proofs.Ytndcjleadggibaa.Rd
open Go.Proofs.YtndcjleadggibaaW.PrintWords (Ev Ev.of Ev.bind Ev.step Ev.rounds rdOf bytesOf bytesOf_length)
set_option linter.unusedVariables false
theorem rdOf_get (l : List ByteArray) (i : Nat) (h : i < l.length) : rdOf ByteArray.empty l (i : Int) = l[i] := by
  unfold rdOf; rw [Int.toNat_natCast, getD_lt h]
theorem txB_no {l : List ByteArray} (h : okT l = false) : (txS l, txE l) = ((⟨#[]⟩ : ByteArray), (400 : Int)) := by
  have : txB l = false := by unfold txB; rw [h]; rfl
  unfold txS txE; rw [this]; rfl
theorem txt_l0 (l : List ByteArray) (hl : l.length ≤ 70368744177664) (hT : (outN l).length < 140737488355328) : ∀ (m i : Nat), i + m = l.length → okT (l.take i) = true →
    Ev (fun k => rdata_Txt.l0 k l (outN (l.take i)) l (l.length : Int) (i : Int)) (txS l, txE l)
  | 0, i, h, ho => by
    have hi : l.take i = l := List.take_of_length_le (by omega)
    rw [hi] at ho ⊢
    refine Ev.step (fun k => by rw [rdata_Txt.l0]) (Ev.neg (by omega) ?_)
    by_cases h0 : l.length = 0
    · refine Ev.pos (by omega) (Ev.some _ fun _ => ?_)
      have : txB l = false := by unfold txB; rw [decide_eq_false (show ¬ 0 < l.length by omega)]; simp
      unfold txS txE; rw [this]; rfl
    · refine Ev.neg (by omega) ?_
      by_cases h1 : 65535 < (outN l).length
      · refine Ev.pos (by omega) (Ev.some _ fun _ => ?_)
        have : txB l = false := by unfold txB; rw [decide_eq_false (show ¬ (outN l).length ≤ 65535 by omega)]; simp
        unfold txS txE; rw [this]; rfl
      · refine Ev.neg (by omega) (Ev.some _ fun _ => ?_)
        have : txB l = true := by unfold txB; rw [ho, decide_eq_true (show (outN l).length ≤ 65535 by omega), decide_eq_true (show 0 < l.length by omega)]; rfl
        unfold txS txE; rw [this]; rfl
  | m + 1, i, h, ho => by
    have hi : i < l.length := by omega
    refine Ev.step (fun k => by rw [rdata_Txt.l0]) (Ev.pos (by omega) (Ev.pos (by omega) (Ev.pos (by omega) ?_)))
    rw [rdOf_get l i hi]
    by_cases hs : 255 < l[i].size
    · rw [txB_no (okT_bad l i hi hs)]
      exact Ev.pos (by omega) (Ev.some _ fun _ => rfl)
    · have hle := outN_le l (i + 1)
      have hn := outN_next l i hi
      rw [hn, List.length_append, List.length_cons, numsOf_length] at hle
      refine Ev.neg (by omega) (Ev.pos (by omega) (Ev.call rfl (Ev.pos (by rw [List.length_append]; simp only [List.length_cons, List.length_nil]; omega) ?_)))
      rw [w64 (x := (i : Int) + 1) (by omega) (by omega), show ((l[i].size : Int) % 256) = (l[i].size : Int) by omega]
      have ih := txt_l0 l hl hT m (i + 1) (by omega) (okT_next l i hi ho (by omega))
      rw [hn] at ih
      rw [List.append_assoc]
      exact ih
theorem txt_ev (l : List ByteArray) (hl : l.length ≤ 70368744177664) (hT : (outN l).length < 140737488355328) : Ev (fun k => rdata_Txt.f k l) (txS l, txE l) := by
  unfold rdata_Txt.f
  exact txt_l0 l hl hT l.length 0 (by omega) rfl
end Go.Proofs.Ytndcjleadggibaa.RdS
