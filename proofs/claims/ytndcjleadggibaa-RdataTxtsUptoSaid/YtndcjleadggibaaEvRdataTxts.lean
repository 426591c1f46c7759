/- The pure statement of RdataTxts: texts one behind the other; one that is too long is refused. -/
import Derived.Test.YtndcjleadggibaaRdS
import Derived.Test.YtndcjleadggibaaRdTx
import Derived.Test.YtndcjleadggibaaOpenKd
import Derived.Test.YtndcjleadggibaaPRdTx3
namespace Go.Proofs.Ytndcjleadggibaa.Pure
open Go.RowKit Go.Proofs.Ytndcjleadggibaa.PRdT Go.Proofs.Ytndcjleadggibaa.Pu Go.Proofs.Ytndcjleadggibaa.Rd Go.Proofs.Ytndcjleadggibaa.RdS Go.Proofs.Ytndcjleadggibaa.Nm
open Go.Proofs.YtndcjleadggibaaW.PrintWords (Ev Ev.of Ev.bind Ev.step Ev.rounds rdOf bytesOf bytesOf_length)
set_option linter.unusedVariables false
/-- A part, cut to 255 bytes. -/
def cutP (s : ByteArray) : ByteArray := if 255 < s.size then s.extract 0 255 else s
theorem cutP_size (s : ByteArray) : (cutP s).size ≤ 255 := by
  unfold cutP
  split
  · rw [ByteArray.size_extract]; omega
  · omega
theorem outN_cuts (l : List ByteArray) : (outN (l.map cutP)).length ≤ 256 * l.length := by
  induction l with
  | nil => simp [outN]
  | cons s l ih =>
    have h : outN ((s :: l).map cutP) = ((cutP s).size : Int) :: numsOf (cutP s) ++ outN (l.map cutP) := rfl
    have := cutP_size s
    rw [h, List.length_append, List.length_cons, numsOf_length, List.length_cons]; omega
theorem okT_cuts (l : List ByteArray) : okT (l.map cutP) = true := by
  unfold okT
  rw [List.all_eq_true]
  intro x hx
  obtain ⟨s, _, rfl⟩ := List.mem_map.1 hx
  simp [cutP_size s]
theorem outN_snoc (l : List ByteArray) (s : ByteArray) : outN (l ++ [s]) = outN l ++ ((s.size : Int) :: numsOf s) := by
  unfold outN; rw [List.flatMap_append, List.flatMap_cons, List.flatMap_nil, List.append_nil]
theorem nums_of (s : ByteArray) : strOfNums (numsOf s) = s := nums_bytesOf s
theorem want_next (xs : List Int) (s : ByteArray) (h : s.size ≤ 255) : strOfNums xs ++ strOfNums [((s.size : Int)) % 256] ++ s = strOfNums (xs ++ ((s.size : Int) :: numsOf s)) := by
  have e : s = strOfNums (numsOf s) := (nums_of s).symm
  rw [show ((s.size : Int)) % 256 = (s.size : Int) by omega, nums_append]
  conv => lhs; arg 2; rw [e]
  rw [nums_append, List.append_assoc]; rfl
theorem txs_end (l0 : List ByteArray) (a1 : Int) (i : Int) (l : List ByteArray) (hl : l.length ≤ 20) : Ev (fun k => wimplelaw4_RdataTxts.j1 k l0 a1 (strOfNums (outN (l.map cutP))) (l.map cutP) i false) true := by
  have hlen := outN_cuts l
  have T1 := txt_ev (l.map cutP) (by rw [List.length_map]; omega) (by omega)
  have T3 := txt_ev [] (by decide) (by decide)
  refine Ev.step (fun k => by rw [wimplelaw4_RdataTxts.j1]) (Ev.neg (by simp) (Ev.bind T1 ?_))
  have hk : Go.bits .and .i64 a1 15 = a1 % 16 := and_mask 4 (by decide) a1
  rw [hk, w64 (x := 250 + a1 % 16) (by omega) (by omega)]
  obtain ⟨k, hk⟩ := Int.eq_ofNat_of_zero_le (show 0 ≤ 250 + a1 % 16 by omega)
  have hk2 : k ≤ 265 := by omega
  rw [hk, Int.toNat_natCast]
  have hz : (strOfNums (List.replicate k (0 : Int))).size = k := by rw [Go.strOfNums_size, List.length_replicate]
  have ho : outN [strOfNums (List.replicate k (0 : Int))] = ((strOfNums (List.replicate k (0 : Int))).size : Int) :: numsOf (strOfNums (List.replicate k (0 : Int))) := by
    show _ ++ [] = _; rw [List.append_nil]
  have hol : (outN [strOfNums (List.replicate k (0 : Int))]).length = k + 1 := by rw [ho, List.length_cons, numsOf_length, hz]
  have T2 := txt_ev [strOfNums (List.replicate k (0 : Int))] (by simp) (by rw [hol]; omega)
  refine Ev.pos (by omega) (Ev.pos (by omega) (Ev.bind T2 (Ev.bind T3 (Ev.call (num_eq _) ?_))))
  have e1 : txE (l.map cutP) = if 0 < l.length then 0 else 400 := by
    unfold txE txB
    rw [okT_cuts, decide_eq_true (show (outN (l.map cutP)).length ≤ 65535 by omega), List.length_map]; simp
  have e2 : txS (l.map cutP) = strOfNums (outN (l.map cutP)) := by
    unfold txS txB
    rw [okT_cuts, decide_eq_true (show (outN (l.map cutP)).length ≤ 65535 by omega), List.length_map]
    by_cases h : 0 < l.length
    · rw [decide_eq_true h]; rfl
    · have : l = [] := List.length_eq_zero_iff.1 (by omega)
      subst this; rfl
  have e3 : txE [strOfNums (List.replicate k (0 : Int))] = if k ≤ 255 then 0 else 400 := by
    unfold txE txB
    rw [hol, decide_eq_true (show k + 1 ≤ 65535 by omega)]
    have : okT [strOfNums (List.replicate k (0 : Int))] = decide (k ≤ 255) := by
      unfold okT
      simp only [List.all_cons, List.all_nil, Bool.and_true, hz]
    rw [this]; simp
  refine Ev.pos ?_ (Ev.pos ?_ (Ev.call (num_eq _) (Ev.pos ?_ (Ev.call (num_eq _) (Ev.some _ fun _ => rfl)))))
  · show ((txE (l.map cutP) == 0) == decide ((((l.map cutP).length : Nat) : Int) > 0)) = true
    rw [e1, List.length_map]
    by_cases h : 0 < l.length
    · rw [if_pos h, decide_eq_true (show ((l.length : Nat) : Int) > 0 by omega)]; rfl
    · rw [if_neg h, decide_eq_false (show ¬ ((l.length : Nat) : Int) > 0 by omega)]; rfl
  · show (txS (l.map cutP)).toList = _
    rw [e2]
  · show ((txE [strOfNums (List.replicate k (0 : Int))] == 0) == decide (((k : Nat) : Int) ≤ 255)) = true
    rw [e3]
    by_cases h : k ≤ 255
    · rw [if_pos h, decide_eq_true (show ((k : Nat) : Int) ≤ 255 by omega)]; rfl
    · rw [if_neg h, decide_eq_false (show ¬ ((k : Nat) : Int) ≤ 255 by omega)]; rfl
theorem txs_l0 (l0 : List ByteArray) (a1 : Int) (hl : l0.length ≤ 70368744177664) : ∀ (m i : Nat), i + m = 20 → i ≤ l0.length →
    Ev (fun k => wimplelaw4_RdataTxts.l0 k l0 a1 (strOfNums (outN ((l0.take i).map cutP))) ((l0.take i).map cutP) (i : Int)) true := by
  intro m
  induction m with
  | zero =>
    intro i h hi
    have hE := txs_end l0 a1 (i : Int) (l0.take i) (by rw [List.length_take]; omega)
    refine Ev.step (fun k => by rw [wimplelaw4_RdataTxts.l0]) ?_
    rw [decide_eq_false (show ¬ (i : Int) < 20 by omega)]
    by_cases hlt : (i : Int) < (l0.length : Int)
    · exact Ev.pos hlt hE
    · exact Ev.neg hlt hE
  | succ m ih =>
    intro i h hi
    refine Ev.step (fun k => by rw [wimplelaw4_RdataTxts.l0]) ?_
    by_cases hlt : i < l0.length
    · rw [decide_eq_true (show (i : Int) < 20 by omega)]
      have ih := ih (i + 1) (by omega) (by omega)
      have ht : (l0.take (i + 1)).map cutP = (l0.take i).map cutP ++ [cutP (l0[i])] := by
        rw [List.take_succ_eq_append_getElem hlt, List.map_append]; rfl
      have hn := want_next (outN ((l0.take i).map cutP)) (cutP l0[i]) (cutP_size _)
      rw [ht, outN_snoc, ← hn] at ih
      have hlen := outN_cuts (l0.take i)
      rw [List.length_take] at hlen
      have hc := cutP_size l0[i]
      refine Ev.pos (by omega) (Ev.step (fun k => by rw [wimplelaw4_RdataTxts.j1]) (Ev.pos rfl (Ev.pos (by omega) (Ev.pos (by omega) ?_))))
      rw [rdOf_get l0 i hlt, w64 (x := (i : Int) + 1) (by omega) (by omega)]
      have b0 : ((l0.take i).map cutP).length < 8796093022208 := by rw [List.length_map, List.length_take]; omega
      by_cases h255 : 255 < l0[i].size
      · have hcut : cutP l0[i] = l0[i].extract 0 255 := by unfold cutP; rw [if_pos h255]
        rw [hcut] at ih hc
        refine Ev.pos (by omega) (Ev.pos (by omega) (Ev.pos (by omega) (Ev.pos b0 (Ev.call rfl (Ev.pos ?_ (Ev.pos ?_ ih))))))
        · rw [Go.strOfNums_size, Go.strOfNums_size]; simp only [List.length_cons, List.length_nil]; omega
        · show (strOfNums _ ++ strOfNums _).size + (l0[i].extract 0 255).size ≤ _
          rw [ByteArray.size_append, Go.strOfNums_size, Go.strOfNums_size]; simp only [List.length_cons, List.length_nil]; omega
      · have hcut : cutP l0[i] = l0[i] := by unfold cutP; rw [if_neg h255]
        rw [hcut] at ih hc
        refine Ev.neg (by omega) (Ev.pos b0 (Ev.call rfl (Ev.pos ?_ (Ev.pos ?_ ih))))
        · rw [Go.strOfNums_size, Go.strOfNums_size]; simp only [List.length_cons, List.length_nil]; omega
        · rw [ByteArray.size_append, Go.strOfNums_size, Go.strOfNums_size]; simp only [List.length_cons, List.length_nil]; omega
    · have hE := txs_end l0 a1 (i : Int) (l0.take i) (by rw [List.length_take]; omega)
      exact Ev.neg (by omega) hE
theorem txts_ev (l0 : List ByteArray) (a1 : Int) (hl : l0.length ≤ 70368744177664) : Ev (fun k => wimplelaw4_RdataTxts.f k l0 a1) true := by
  unfold wimplelaw4_RdataTxts.f
  exact Ev.bind awake_ev (Ev.pos rfl (txs_l0 l0 a1 hl 20 0 (by omega) (by omega)))
theorem len_bks (l : List ByteArray) : l.length ≤ (l.map fun s : ByteArray => s.size + 1).sum := by
  induction l with
  | nil => simp
  | cons x l ih => rw [List.map_cons, List.sum_cons, List.length_cons]; omega
theorem rdataTxts_ev (x0 : List ByteArray) (a1 : Int) (o0 : ∀ x ∈ x0, x.size ≤ maxLen) (o1 : (Lit.int .i64 a1).wf = true) (hb : OpenKd.bks (fun s : ByteArray => s.size + 1) x0 + 1 ≤ 1048576) : Ev (fun k => wimplelaw4_RdataTxts.f k x0 a1) true := by
  have := len_bks x0
  unfold OpenKd.bks at hb
  exact txts_ev x0 a1 (by omega)
end Go.Proofs.Ytndcjleadggibaa.Pure
