/- The pure statement of RdataBack: what is put together may be, and comes apart again. -/
import Derived.Test.YtndcjleadggibaaRdS
import Derived.Test.YtndcjleadggibaaRdTx
import Derived.Test.YtndcjleadggibaaRdBackS
import Derived.Test.YtndcjleadggibaaOkRdT
import Derived.Test.YtndcjleadggibaaPRdTx5
namespace Go.Proofs.Ytndcjleadggibaa.Pure
open Go.RowKit Go.Proofs.Ytndcjleadggibaa.PRdT Go.Proofs.Ytndcjleadggibaa.Pu Go.Proofs.Ytndcjleadggibaa.Rd Go.Proofs.Ytndcjleadggibaa.RdS Go.Proofs.Ytndcjleadggibaa.Nm Go.Proofs.Ytndcjleadggibaa.Oct Go.Proofs.Ytndcjleadggibaa.OkRdT
open Go.Proofs.YtndcjleadggibaaW.PrintWords (Ev Ev.of Ev.bind Ev.step Ev.rounds)
set_option linter.unusedVariables false
theorem out_bks (l : List ByteArray) : (outN l).length = (l.map fun s : ByteArray => s.size + 1).sum := by
  induction l with
  | nil => rfl
  | cons x l ih =>
    have h : outN (x :: l) = (x.size : Int) :: numsOf x ++ outN l := rfl
    rw [h, List.length_append, List.length_cons, numsOf_length, ih, List.map_cons, List.sum_cons]
theorem len_bks (l : List ByteArray) : l.length ≤ (l.map fun s : ByteArray => s.size + 1).sum := by
  induction l with
  | nil => simp
  | cons x l ih => rw [List.map_cons, List.sum_cons, List.length_cons]; omega
theorem back_j2 (l : List ByteArray) (hb : (l.map fun s : ByteArray => s.size + 1).sum ≤ 1048576) : Ev (fun k => wimplelaw4_RdataBack.j2 k l) true := by
  have h1 := len_bks l
  have h2 := out_bks l
  refine Ev.step (fun k => by rw [wimplelaw4_RdataBack.j2]) (Ev.bind (txt_ev l (by omega) (by omega)) (Ev.call (num_eq _) ?_))
  by_cases ht : txB l = true
  · have e : (txS l, txE l) = (strOfNums (outN l), (0 : Int)) := by unfold txS txE; rw [ht]; rfl
    have hm := txt_may l ht
    rw [e]
    have hs : (strOfNums (outN l)).size ≤ 9223372036854775000 := by rw [Go.strOfNums_size]; omega
    refine Ev.pos rfl (Ev.call (num_eq _) (Ev.pos rfl (Ev.call (a := true) (by rw [may_eq _ _ hs, hm]) (Ev.some _ fun _ => rfl))))
  · have e : (txS l, txE l) = (emp, (400 : Int)) := by unfold txS txE; rw [show txB l = false by simpa using ht]; rfl
    rw [e]
    exact Ev.neg (by decide) (Ev.pos (isB _ _ rfl) (Ev.some _ fun _ => rfl))
theorem back_j1 (l : List ByteArray) (hb : (l.map fun s : ByteArray => s.size + 1).sum ≤ 1048576) (x : Soa) : Ev (fun k => wimplelaw4_RdataBack.j1 k l x.host x.mail x.s0 x.s1 x.s2 x.s3 x.s4) true := by
  have J := back_j2 l hb
  refine Ev.step (fun k => by rw [wimplelaw4_RdataBack.j1]) ?_
  by_cases ho : x.ok = true
  · have e : rdata_Soa.f x.host x.mail x.s0 x.s1 x.s2 x.s3 x.s4 = some (x.out, 0) := by show some (x.S, x.E) = _; unfold Soa.S Soa.E; rw [ho]; rfl
    have ho' := ho
    unfold Soa.ok at ho'
    simp only [Bool.and_eq_true] at ho'
    have s1 := nameB_size ho'.1
    have s2 := nameB_size ho'.2.1
    have hs := out_size x
    have hm := soa_may x ho
    have hu : unX x.out = x := by unfold unX; rw [hm, if_pos rfl, soa_back x ho]
    have hue : unE x.out = 0 := by unfold unE; rw [hm]; rfl
    refine Ev.call e (Ev.call (num_eq _) (Ev.pos rfl (Ev.call (unsoa_eq _ (by rw [hs]; omega)) ?_)))
    rw [hu, hue]
    refine Ev.call (num_eq _) (Ev.pos rfl (Ev.neg (by simp) (Ev.call (may_eq _ _ (by rw [hs]; omega)) (Ev.pos hm (Ev.pos (by rw [hs]; omega) (Ev.call (may_eq _ _ (by rw [ByteArray.size_append, hs]; have : (⟨#[97]⟩ : ByteArray).size = 1 := rfl; omega)) ?_))))))
    exact Ev.neg (by rw [soa_not x ho]; simp) J
  · have e : rdata_Soa.f x.host x.mail x.s0 x.s1 x.s2 x.s3 x.s4 = some (emp, 400) := by show some (x.S, x.E) = _; unfold Soa.S Soa.E; rw [show x.ok = false by simpa using ho]; rfl
    exact Ev.call e (Ev.call (num_eq _) (Ev.neg (by decide) J))
theorem back_j0 (a0 : Int) (h : ByteArray) (hz : h.size ≤ 1048576) (l : List ByteArray) (hb : (l.map fun s : ByteArray => s.size + 1).sum ≤ 1048576) (x : Soa) :
    Ev (fun k => wimplelaw4_RdataBack.j0 k a0 h l false x.host x.mail x.s0 x.s1 x.s2 x.s3 x.s4) true := by
  have J := back_j1 l hb x
  refine Ev.step (fun k => by rw [wimplelaw4_RdataBack.j0]) (Ev.neg (by simp) ?_)
  rw [and_65535]
  have hM : mxB (a0 % 65536) h = nameB h := by
    unfold mxB
    rw [decide_eq_true (show 0 ≤ a0 % 65536 by omega), decide_eq_true (show a0 % 65536 ≤ 65535 by omega)]; rfl
  by_cases hn : nameB h = true
  · have e : rdata_Mx.f (a0 % 65536) h = some (p16 (a0 % 65536) ++ h, 0) := by show some (mxS _ _, mxE _ _) = _; unfold mxS mxE; rw [hM, hn]; rfl
    have hs := nameB_size hn
    have z : (p16 (a0 % 65536) ++ h).size = 2 + h.size := by rw [ByteArray.size_append, p16_size]
    have ex : (p16 (a0 % 65536) ++ h).extract 2 (p16 (a0 % 65536) ++ h).size = h := by
      have := extract_mid (p16 (a0 % 65536)) h (⟨#[]⟩ : ByteArray)
      rw [append_empty, p16_size] at this
      rw [z]; exact this
    have m15 : mayD 15 (p16 (a0 % 65536) ++ h) = true := by
      rw [mayD_body (by decide) (by decide) (by omega), ex, hn, decide_eq_true (show 2 ≤ (p16 (a0 % 65536) ++ h).size by omega)]; rfl
    have m2 : mayD 2 h = true := by rw [mayD_body (by decide) (by decide) (by omega), hn]; rfl
    have m5 : mayD 5 h = true := by rw [mayD_body (by decide) (by decide) (by omega), hn]; rfl
    have b15 : hostB 15 (p16 (a0 % 65536) ++ h) = true := by unfold hostB; rw [m15]; rfl
    have b2 : hostB 2 h = true := by unfold hostB; rw [m2]; rfl
    refine Ev.call e (Ev.call (num_eq _) (Ev.call rfl (Ev.neg (by rw [hn]; simp) (Ev.call (num_eq _) (Ev.pos rfl ?_)))))
    refine Ev.call (a := (h, 0)) (by show rdata_Host.f 15 (p16 (a0 % 65536) ++ h) = _; rw [host_eq _ _ (by omega)]; unfold hostS hostE; rw [b15, ex]; rfl) ?_
    refine Ev.call (a := (h, 0)) (by rw [host_eq _ _ (by omega)]; unfold hostS hostE; rw [b2]; rfl) ?_
    refine Ev.call (num_eq _) (Ev.pos rfl (Ev.pos rfl (Ev.call (num_eq _) (Ev.pos rfl (Ev.pos rfl ?_)))))
    refine Ev.call (may_eq 15 (p16 (a0 % 65536) ++ h) (by omega)) (Ev.pos m15 (Ev.call (may_eq _ _ (by omega)) (Ev.pos m5 J)))
  · have hn' : nameB h = false := by simpa using hn
    have e : rdata_Mx.f (a0 % 65536) h = some (emp, 400) := by show some (mxS _ _, mxE _ _) = _; unfold mxS mxE; rw [hM, hn']; rfl
    exact Ev.call e (Ev.call (num_eq _) (Ev.call rfl (Ev.neg (by rw [hn']; decide) (Ev.call (num_eq _) (Ev.neg (by decide) J)))))
theorem rdataBack_ev (a0 : Int) (a1 : ByteArray) (x2 : S59) (x3 : List ByteArray) (o0 : (Lit.int .i64 a0).wf = true) (o1 : a1.size ≤ maxLen) (o2 : ok59 x2) (o3 : ∀ x ∈ x3, x.size ≤ maxLen)
    (hb : 1 + (a1.size + 1) + bk59 x2 + OpenKd.bks (fun s : ByteArray => s.size + 1) x3 ≤ 1048576) :
    Ev (fun k => wimplelaw4_RdataBack.f k a0 a1 x2.f0 x2.f1 x2.f2 x2.f3 x2.f4 x2.f5 x2.f6 x3) true := by
  unfold OpenKd.bks at hb
  have J := back_j0 a0 a1 (by omega) x3 (by omega) ⟨x2.f0, x2.f1, x2.f2, x2.f3, x2.f4, x2.f5, x2.f6⟩
  unfold wimplelaw4_RdataBack.f
  rw [and_4294967295]
  have hw : wideB (a0 % 4294967296) = true := by unfold wideB; simp only [Bool.and_eq_true, decide_eq_true_eq]; omega
  have e : rdata_A.f (a0 % 4294967296) = some (p32 (a0 % 4294967296), 0) := by show some (aS _, aE _) = _; unfold aS aE; rw [hw]; rfl
  have z := p32_size (a0 % 4294967296)
  have ea : rdata_Addr.f (p32 (a0 % 4294967296)) = some (a0 % 4294967296, 0) := by
    unfold rdata_Addr.f addrX addrE
    rw [if_pos (by omega), if_pos z, if_pos z, be4_first _ (by omega) (by omega)]
  have m1 : mayD 1 (p32 (a0 % 4294967296)) = true := by rw [mayD_body (by decide) (by decide) (by omega), z]; rfl
  refine Ev.bind awake_ev (Ev.pos rfl (Ev.call e (Ev.call ea (Ev.call (num_eq _) (Ev.pos rfl (Ev.call (num_eq _) (Ev.pos rfl (Ev.pos rfl (Ev.call (may_eq 1 (p32 (a0 % 4294967296)) (by omega)) ?_)))))))))
  rw [m1]
  exact J
end Go.Proofs.Ytndcjleadggibaa.Pure
