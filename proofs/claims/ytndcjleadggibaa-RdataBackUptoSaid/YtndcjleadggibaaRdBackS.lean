/- Plain laws of rdata: names, numbers and texts within longer strings. -/
import Derived.Test.YtndcjleadggibaaRdAw
import Derived.Test.YtndcjleadggibaaPure
namespace Go.Proofs.Ytndcjleadggibaa.RdS
open Go.PlainAid Go.Proofs.Ytndcjleadggibaa.Base Go.Proofs.Ytndcjleadggibaa.Oct Go.Proofs.Ytndcjleadggibaa.Nm Go.Proofs.Ytndcjleadggibaa.Rd
open Go.Proofs.Ytndcjleadggibaa.Pu (ext_data data_length)
set_option linter.unusedVariables false
theorem bt_mid (P h R : ByteArray) (i : Nat) (hi : i < h.size) : bt (P ++ h ++ R) (P.size + i) = bt h i := by
  rw [bt_append_left _ _ _ (by rw [ByteArray.size_append]; omega), bt_append_right _ _ _ (by omega)]
  congr 1; omega
theorem extract_mid (P h R : ByteArray) : (P ++ h ++ R).extract P.size (P.size + h.size) = h := by
  apply ext_data
  rw [ByteArray.data_extract, Array.toList_extract, List.extract_eq_take_drop, ByteArray.data_append, ByteArray.data_append, Array.toList_append, Array.toList_append]
  have h1 : P.data.toList.length = P.size := data_length P
  have h2 : h.data.toList.length = h.size := data_length h
  rw [List.append_assoc, ← h1, List.drop_left, show P.data.toList.length + h.size - P.data.toList.length = h.data.toList.length by omega, List.take_left]
theorem zero_mid (P h R : ByteArray) : ∀ (d i : Nat), h.size - i ≤ d → nameAt h i = true → zeroAt (P ++ h ++ R) (P.size + i) = some (P.size + h.size - 1)
  | 0, i, hd, hn => by rw [nameAt_out (by omega)] at hn; cases hn
  | d + 1, i, hd, hn => by
    by_cases hi : i < h.size
    · have hb := bt_mid P h R i hi
      have hs : P.size + i < (P ++ h ++ R).size := by rw [ByteArray.size_append, ByteArray.size_append]; omega
      by_cases h0 : bt h i = 0
      · rw [nameAt_end hi h0] at hn
        simp only [decide_eq_true_eq] at hn
        rw [zeroAt_end hs (by rw [hb]; exact h0)]
        congr 1; omega
      · by_cases h1 : bt h i ≤ 63
        · rw [nameAt_next hi h0 h1] at hn
          rw [zeroAt_next hs (by rw [hb]; exact h0), hb, show P.size + i + 1 + (bt h i).toNat = P.size + (i + 1 + (bt h i).toNat) by omega]
          exact zero_mid P h R d _ (by omega) hn
        · rw [nameAt_bad hi (by omega)] at hn; cases hn
    · rw [nameAt_out (by omega)] at hn; cases hn
theorem name_pos {h : ByteArray} (hn : nameB h = true) : 0 < h.size := by
  rcases Nat.eq_zero_or_pos h.size with h0 | h0
  · rw [nameB_small h0] at hn; cases hn
  · exact h0
theorem end_mid (P h R : ByteArray) (hn : nameB h = true) : endN (P ++ h ++ R) P.size = ((P.size + h.size : Nat) : Int) := by
  have h1 : nameAt h 0 = true := by unfold nameB at hn; simp only [Bool.and_eq_true] at hn; exact hn.2
  have hz := zero_mid P h R h.size 0 (by omega) h1
  have hp := name_pos hn
  unfold endN
  rw [Nat.add_zero] at hz
  rw [hz]
  simp only
  rw [show P.size + h.size - 1 + 1 = P.size + h.size by omega, extract_mid, hn, if_pos rfl]
  omega
theorem empty_append (h : ByteArray) : (⟨#[]⟩ : ByteArray) ++ h = h := by apply ext_data; rw [ByteArray.data_append]; simp
theorem end_first (h R : ByteArray) (hn : nameB h = true) : endN (h ++ R) 0 = ((h.size : Nat) : Int) := by
  have := end_mid (⟨#[]⟩ : ByteArray) h R hn
  rw [empty_append] at this
  rw [show (0 : Nat) = (⟨#[]⟩ : ByteArray).size from rfl, this]
  show ((0 + h.size : Nat) : Int) = _
  rw [Nat.zero_add]
theorem be4_mid (X Y : ByteArray) (a : Int) (h0 : 0 ≤ a) (h1 : a ≤ 4294967295) : be4 (X ++ p32 a ++ Y) X.size = a := by
  have hs := p32_size a
  unfold be4
  rw [show X.size = X.size + 0 by omega, bt_mid _ _ _ 0 (by omega), show X.size + 0 + 1 = X.size + 1 by omega, bt_mid _ _ _ 1 (by omega), show X.size + 0 + 2 = X.size + 2 by omega, bt_mid _ _ _ 2 (by omega), show X.size + 0 + 3 = X.size + 3 by omega, bt_mid _ _ _ 3 (by omega)]
  have e0 : bt (p32 a) 0 = (a / 16777216) % 256 := bt_nums _ 0 _ rfl (by omega) (by omega)
  have e1 : bt (p32 a) 1 = (a / 65536) % 256 := bt_nums _ 1 _ rfl (by omega) (by omega)
  have e2 : bt (p32 a) 2 = (a / 256) % 256 := bt_nums _ 2 _ rfl (by omega) (by omega)
  have e3 : bt (p32 a) 3 = a % 256 := bt_nums _ 3 _ rfl (by omega) (by omega)
  rw [e0, e1, e2, e3]; omega
theorem be4_first (a : Int) (h0 : 0 ≤ a) (h1 : a ≤ 4294967295) : be4 (p32 a) 0 = a := by
  have := be4_mid (⟨#[]⟩ : ByteArray) (⟨#[]⟩ : ByteArray) a h0 h1
  rw [empty_append] at this
  have e : p32 a ++ (⟨#[]⟩ : ByteArray) = p32 a := by apply ext_data; rw [ByteArray.data_append]; simp
  rw [e] at this
  exact this
/-- An SOA's data, whatever stands behind: where its names end, its numbers. -/
theorem soa_parts (x : Soa) (ho : x.ok = true) (R : ByteArray) : eA (x.out ++ R) = x.host.size ∧ eB (x.out ++ R) = x.host.size + x.mail.size ∧ endN (x.out ++ R) 0 = ((x.host.size : Nat) : Int) ∧ endN (x.out ++ R) x.host.size = ((x.host.size + x.mail.size : Nat) : Int) := by
  unfold Soa.ok at ho
  simp only [Bool.and_eq_true] at ho
  have e1 : x.out ++ R = x.host ++ (x.mail ++ (p32 x.s0 ++ (p32 x.s1 ++ (p32 x.s2 ++ (p32 x.s3 ++ (p32 x.s4 ++ R)))))) := by unfold Soa.out; simp only [ByteArray.append_assoc]
  have e2 : x.out ++ R = x.host ++ x.mail ++ (p32 x.s0 ++ (p32 x.s1 ++ (p32 x.s2 ++ (p32 x.s3 ++ (p32 x.s4 ++ R))))) := by unfold Soa.out; simp only [ByteArray.append_assoc]
  have h1 : endN (x.out ++ R) 0 = ((x.host.size : Nat) : Int) := by rw [e1]; exact end_first _ _ ho.1
  have h2 : endN (x.out ++ R) x.host.size = ((x.host.size + x.mail.size : Nat) : Int) := by rw [e2]; exact end_mid _ _ _ ho.2.1
  have h3 : eA (x.out ++ R) = x.host.size := by unfold eA; rw [h1]; omega
  refine ⟨h3, ?_, h1, h2⟩
  unfold eB
  rw [h3, h2]; omega
theorem out_size (x : Soa) : x.out.size = x.host.size + x.mail.size + 20 := by
  unfold Soa.out
  simp only [ByteArray.size_append, p32_size]
theorem append_empty (s : ByteArray) : s ++ (⟨#[]⟩ : ByteArray) = s := by apply ext_data; rw [ByteArray.data_append]; simp
theorem soa_may (x : Soa) (ho : x.ok = true) : mayD 6 x.out = true := by
  have hp := soa_parts x ho (⟨#[]⟩ : ByteArray)
  rw [append_empty] at hp
  obtain ⟨h1, h2, h3, h4⟩ := hp
  have ho' := ho
  unfold Soa.ok at ho'
  simp only [Bool.and_eq_true] at ho'
  have s1 := nameB_size ho'.1
  have s2 := nameB_size ho'.2.1
  have hs := out_size x
  rw [mayD_body (by decide) (by decide) (by omega)]
  have : soaB x.out = true := by
    unfold soaB
    rw [h3, Int.toNat_natCast, h4, hs]
    simp only [Bool.and_eq_true, decide_eq_true_eq]
    omega
  rw [this]; rfl
theorem soa_not (x : Soa) (ho : x.ok = true) : mayD 6 (x.out ++ (⟨#[97]⟩ : ByteArray)) = false := by
  obtain ⟨h1, h2, h3, h4⟩ := soa_parts x ho (⟨#[97]⟩ : ByteArray)
  have ho' := ho
  unfold Soa.ok at ho'
  simp only [Bool.and_eq_true] at ho'
  have s1 := nameB_size ho'.1
  have s2 := nameB_size ho'.2.1
  have hs : (x.out ++ (⟨#[97]⟩ : ByteArray)).size = x.host.size + x.mail.size + 21 := by rw [ByteArray.size_append, out_size]; rfl
  rw [mayD_body (by decide) (by decide) (by omega)]
  have : soaB (x.out ++ (⟨#[97]⟩ : ByteArray)) = false := by
    unfold soaB
    rw [h3, Int.toNat_natCast, h4, hs]
    simp only [Bool.and_eq_false_iff, decide_eq_false_iff_not]
    omega
  rw [this]; rfl
theorem soa_back (x : Soa) (ho : x.ok = true) : soaOf x.out = x := by
  have hp := soa_parts x ho (⟨#[]⟩ : ByteArray)
  rw [append_empty] at hp
  obtain ⟨h1, h2, h3, h4⟩ := hp
  have ho' := ho
  unfold Soa.ok at ho'
  simp only [Bool.and_eq_true, wideB_iff] at ho'
  obtain ⟨n1, n2, w0, w1, w2, w3, w4⟩ := ho'
  unfold soaOf
  rw [h1, h2]
  have z : (x.host ++ x.mail).size = x.host.size + x.mail.size := ByteArray.size_append
  have z0 : (x.host ++ x.mail ++ p32 x.s0).size = x.host.size + x.mail.size + 4 := by rw [ByteArray.size_append, z, p32_size]
  have z1 : (x.host ++ x.mail ++ p32 x.s0 ++ p32 x.s1).size = x.host.size + x.mail.size + 8 := by rw [ByteArray.size_append, z0, p32_size]
  have z2 : (x.host ++ x.mail ++ p32 x.s0 ++ p32 x.s1 ++ p32 x.s2).size = x.host.size + x.mail.size + 12 := by rw [ByteArray.size_append, z1, p32_size]
  have z3 : (x.host ++ x.mail ++ p32 x.s0 ++ p32 x.s1 ++ p32 x.s2 ++ p32 x.s3).size = x.host.size + x.mail.size + 16 := by rw [ByteArray.size_append, z2, p32_size]
  have q0 : be4 x.out (x.host.size + x.mail.size) = x.s0 := by
    have := be4_mid (x.host ++ x.mail) (p32 x.s1 ++ (p32 x.s2 ++ (p32 x.s3 ++ p32 x.s4))) x.s0 w0.1 w0.2
    rw [z] at this
    rw [← this]; congr 1; unfold Soa.out; simp only [ByteArray.append_assoc]
  have q1 : be4 x.out (x.host.size + x.mail.size + 4) = x.s1 := by
    have := be4_mid (x.host ++ x.mail ++ p32 x.s0) (p32 x.s2 ++ (p32 x.s3 ++ p32 x.s4)) x.s1 w1.1 w1.2
    rw [z0] at this
    rw [← this]; congr 1; unfold Soa.out; simp only [ByteArray.append_assoc]
  have q2 : be4 x.out (x.host.size + x.mail.size + 8) = x.s2 := by
    have := be4_mid (x.host ++ x.mail ++ p32 x.s0 ++ p32 x.s1) (p32 x.s3 ++ p32 x.s4) x.s2 w2.1 w2.2
    rw [z1] at this
    rw [← this]; congr 1; unfold Soa.out; simp only [ByteArray.append_assoc]
  have q3 : be4 x.out (x.host.size + x.mail.size + 12) = x.s3 := by
    have := be4_mid (x.host ++ x.mail ++ p32 x.s0 ++ p32 x.s1 ++ p32 x.s2) (p32 x.s4) x.s3 w3.1 w3.2
    rw [z2] at this
    rw [← this]; congr 1
  have q4 : be4 x.out (x.host.size + x.mail.size + 16) = x.s4 := by
    have := be4_mid (x.host ++ x.mail ++ p32 x.s0 ++ p32 x.s1 ++ p32 x.s2 ++ p32 x.s3) (⟨#[]⟩ : ByteArray) x.s4 w4.1 w4.2
    rw [z3, append_empty] at this
    exact this
  rw [q0, q1, q2, q3, q4]
  have g1 : x.out.extract 0 x.host.size = x.host := by
    have := extract_mid (⟨#[]⟩ : ByteArray) x.host (x.mail ++ (p32 x.s0 ++ (p32 x.s1 ++ (p32 x.s2 ++ (p32 x.s3 ++ p32 x.s4)))))
    rw [empty_append, show (⟨#[]⟩ : ByteArray).size = 0 from rfl, Nat.zero_add] at this
    have e : x.out = x.host ++ (x.mail ++ (p32 x.s0 ++ (p32 x.s1 ++ (p32 x.s2 ++ (p32 x.s3 ++ p32 x.s4))))) := by unfold Soa.out; simp only [ByteArray.append_assoc]
    rw [e]; exact this
  have g2 : x.out.extract x.host.size (x.host.size + x.mail.size) = x.mail := by
    have := extract_mid x.host x.mail (p32 x.s0 ++ (p32 x.s1 ++ (p32 x.s2 ++ (p32 x.s3 ++ p32 x.s4))))
    have e : x.out = x.host ++ x.mail ++ (p32 x.s0 ++ (p32 x.s1 ++ (p32 x.s2 ++ (p32 x.s3 ++ p32 x.s4)))) := by unfold Soa.out; simp only [ByteArray.append_assoc]
    rw [e]; exact this
  rw [g1, g2]
/-- Texts. -/
theorem bt_numsAt (xs : List Int) (i : Nat) (h : i < xs.length) (hr : ∀ y ∈ xs, 0 ≤ y ∧ y ≤ 255) : bt (strOfNums xs) i = xs[i] := by
  have := hr _ (List.getElem_mem h)
  exact bt_nums xs i _ (List.getElem?_eq_getElem h) this.1 (by omega)
theorem outN_range (l : List ByteArray) (ho : okT l = true) : ∀ y ∈ outN l, 0 ≤ y ∧ y ≤ 255 := by
  intro y hy
  unfold outN at hy
  obtain ⟨s, hs, hy⟩ := List.mem_flatMap.1 hy
  rcases List.mem_cons.1 hy with rfl | hy
  · unfold okT at ho
    have := List.all_eq_true.1 ho s hs
    simp only [decide_eq_true_eq] at this
    omega
  · unfold numsOf at hy
    obtain ⟨b, _, rfl⟩ := List.mem_map.1 hy
    have := b.toNat_lt
    omega
theorem texts_out (l : List ByteArray) (ho : okT l = true) : ∀ (m i : Nat), i + m = l.length → textsAt (strOfNums (outN l)) (outN (l.take i)).length = true
  | 0, i, h => by
    have : l.take i = l := List.take_of_length_le (by omega)
    rw [this, textsAt_end (by rw [strOfNums_size]; omega), strOfNums_size]; simp
  | m + 1, i, h => by
    have hi : i < l.length := by omega
    have hn := outN_next l i hi
    have hle := outN_le l (i + 1)
    rw [hn, List.length_append, List.length_cons, numsOf_length] at hle
    have hlt : (outN (l.take i)).length < (outN l).length := by omega
    have hb : bt (strOfNums (outN l)) (outN (l.take i)).length = (l[i].size : Int) := by
      rw [bt_numsAt _ _ hlt (outN_range l ho)]
      have e : outN l = outN (l.take i) ++ ((l[i].size : Int) :: numsOf l[i]) ++ outN (l.drop (i + 1)) := by
        rw [← hn]
        unfold outN
        rw [← List.flatMap_append, List.take_append_drop]
      have : (outN l)[(outN (l.take i)).length]? = some (l[i].size : Int) := by
        rw [e, List.append_assoc, List.getElem?_append_right (by omega), Nat.sub_self]; rfl
      rw [List.getElem?_eq_getElem hlt] at this
      exact Option.some.inj this
    rw [textsAt_next (by rw [strOfNums_size]; exact hlt), hb, Int.toNat_natCast]
    have := texts_out l ho m (i + 1) (by omega)
    rw [hn, List.length_append, List.length_cons, numsOf_length] at this
    rw [show (outN (l.take i)).length + 1 + l[i].size = (outN (l.take i)).length + (l[i].size + 1) by omega]
    exact this
theorem txt_may (l : List ByteArray) (h : txB l = true) : mayD 16 (strOfNums (outN l)) = true := by
  unfold txB at h
  simp only [Bool.and_eq_true, decide_eq_true_eq] at h
  obtain ⟨h1, h2, h3⟩ := h
  rw [mayD_body (by decide) (by decide) (by rw [strOfNums_size]; omega)]
  have h0 := texts_out l h1 l.length 0 (by omega)
  have hz : 0 < (outN l).length := by
    have hn := outN_next l 0 h2
    have := outN_le l 1
    rw [hn, List.length_append, List.length_cons] at this
    omega
  have : textsB (strOfNums (outN l)) = true := by
    unfold textsB
    rw [strOfNums_size, decide_eq_true hz]
    exact h0
  rw [this]; rfl
end Go.Proofs.Ytndcjleadggibaa.RdS
