/- A name's places behind so many bytes: moved by as many. -/
import Derived.Test.YtepglkgpgoifkaaName2
namespace Go.Proofs.Ytepglkgpgoifkaa.Nm
open Go.RowKit Go.PlainAid Go.Proofs.Ytepglkgpgoifkaa.Base
set_option linter.unusedVariables false
theorem placesAt_bad {s : ByteArray} {i : Nat} (h : i < s.size) (h0 : 63 < bt s i) : placesAt s i = [i] := by
  rw [placesAt, if_pos h, if_neg (by omega), if_pos h0]
theorem shift (h s : ByteArray) : ∀ n i, s.size - i ≤ n → nameAt (h ++ s) (h.size + i) = nameAt s i ∧ placesAt (h ++ s) (h.size + i) = (placesAt s i).map (h.size + ·) := by
  have hz : (h ++ s).size = h.size + s.size := ByteArray.size_append
  intro n
  induction n with
  | zero =>
    intro i hi
    rw [nameAt_out (by omega), nameAt_out (by omega), placesAt, if_neg (by omega), placesAt, if_neg (by omega)]
    exact ⟨rfl, rfl⟩
  | succ n ih =>
    intro i hi
    by_cases hl : i < s.size
    · have hb : bt (h ++ s) (h.size + i) = bt s i := by rw [bt_append_right h s _ (by omega), Nat.add_sub_cancel_left]
      have hl2 : h.size + i < (h ++ s).size := by omega
      by_cases h0 : bt s i = 0
      · rw [nameAt_end hl2 (by rw [hb]; exact h0), nameAt_end hl h0, placesAt_end hl2 (by rw [hb]; exact h0), placesAt_end hl h0]
        refine ⟨?_, rfl⟩
        rw [Bool.eq_iff_iff]; simp; omega
      · by_cases h1 : 63 < bt s i
        · rw [nameAt_bad hl2 (by rw [hb]; exact h1), nameAt_bad hl h1, placesAt_bad hl2 (by rw [hb]; exact h1), placesAt_bad hl h1]
          exact ⟨rfl, rfl⟩
        · have := ih (i + 1 + (bt s i).toNat) (by omega)
          rw [nameAt_next hl2 (by rw [hb]; exact h0) (by rw [hb]; omega), nameAt_next hl h0 (by omega), placesAt_next hl2 (by rw [hb]; exact h0) (by rw [hb]; omega), placesAt_next hl h0 (by omega), hb, show h.size + i + 1 + (bt s i).toNat = h.size + (i + 1 + (bt s i).toNat) by omega]
          exact ⟨this.1, by rw [this.2]; rfl⟩
    · rw [nameAt_out (by omega), nameAt_out (by omega), placesAt, if_neg (by omega), placesAt, if_neg (by omega)]
      exact ⟨rfl, rfl⟩
/-- A label ahead of a name. -/
theorem label_ahead (h s : ByteArray) (k : Nat) (hk : 1 ≤ k) (hk2 : k ≤ 63) (hh : h.size = k + 1) (hb : bt h 0 = (k : Int)) (hs : nameB s = true) (hz : k + 1 + s.size ≤ 255) :
    nameB (h ++ s) = true ∧ places (h ++ s) = 0 :: (places s).map (k + 1 + ·) := by
  have z : (h ++ s).size = h.size + s.size := ByteArray.size_append
  have b0 : bt (h ++ s) 0 = (k : Int) := by rw [bt_append_left h s 0 (by omega)]; exact hb
  have sh := shift h s (s.size) 0 (by omega)
  rw [Nat.add_zero] at sh
  have e : 0 + 1 + (bt (h ++ s) 0).toNat = h.size := by rw [b0]; omega
  have hs2 : nameAt s 0 = true := by unfold nameB at hs; simp at hs; exact hs.2
  refine ⟨?_, ?_⟩
  · unfold nameB
    rw [nameAt_next (by omega) (by rw [b0]; omega) (by rw [b0]; omega), e, sh.1, hs2]
    simp; omega
  · unfold places
    rw [placesAt_next (by omega) (by rw [b0]; omega) (by rw [b0]; omega), e, sh.2, hh]
end Go.Proofs.Ytepglkgpgoifkaa.Nm
