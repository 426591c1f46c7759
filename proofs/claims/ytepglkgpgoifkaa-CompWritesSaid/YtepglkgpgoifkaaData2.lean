/- Contracts of rdata.soa and May, and of the document's DataMay. -/
import Derived.Test.YtepglkgpgoifkaaData
namespace Go.Proofs.Ytepglkgpgoifkaa.Rd
open Go.RowKit Go.PlainAid Go.Proofs.Ytepglkgpgoifkaa.Base Go.Proofs.Ytepglkgpgoifkaa.Oct Go.Proofs.Ytepglkgpgoifkaa.Sl Go.Proofs.Ytepglkgpgoifkaa.Nm
set_option linter.unusedVariables false

theorem endN_bd {s : ByteArray} {a : Nat} (h : 0 ≤ endN s a) : (a : Int) < endN s a ∧ endN s a ≤ s.size := by
  unfold endN at h ⊢
  cases hz : zeroAt s a with
  | none => rw [hz] at h; simp at h
  | some p =>
    have := zeroAt_ge _ a p (Nat.le_refl _) hz
    rw [hz] at h
    simp only at h ⊢
    split
    · omega
    · rename_i hn; rw [if_neg hn] at h; omega
theorem endN_neg {s : ByteArray} {a : Nat} (h : endN s a < 0) : endN s a = -1 := by
  unfold endN at h ⊢
  cases hz : zeroAt s a with
  | none => rfl
  | some p =>
    rw [hz] at h
    simp only at h ⊢
    split
    · rename_i hn; rw [if_pos hn] at h; omega
    · rfl
theorem bt_extract (s : ByteArray) (a i : Nat) : bt (s.extract a s.size) i = bt s (a + i) := by
  rw [bt_data, bt_data, ByteArray.data_extract, Array.toList_extract]
  congr 1
  congr 1
  simp only [List.getD_eq_getElem?_getD, List.extract_eq_take_drop, List.getElem?_take, List.getElem?_drop]
  by_cases h : i < s.size - a
  · rw [if_pos h]
  · rw [if_neg h, List.getElem?_eq_none (by rw [len_data]; omega)]
theorem zeroAt_shift (s : ByteArray) (a : Nat) (ha : a ≤ s.size) : ∀ (d i : Nat), s.size - (a + i) ≤ d → zeroAt (s.extract a s.size) i = (zeroAt s (a + i)).map (· - a)
  | 0, i, hd => by rw [zeroAt_out (by rw [ByteArray.size_extract]; omega), zeroAt_out (by omega)]; rfl
  | d + 1, i, hd => by
    by_cases hlt : a + i < s.size
    · by_cases h0 : bt s (a + i) = 0
      · rw [zeroAt_end (by rw [ByteArray.size_extract]; omega) (by rw [bt_extract]; exact h0), zeroAt_end hlt h0]
        simp
      · rw [zeroAt_next (by rw [ByteArray.size_extract]; omega) (by rw [bt_extract]; exact h0), zeroAt_next hlt h0, bt_extract, zeroAt_shift s a ha d _ (by omega)]
        rw [show a + (i + 1 + (bt s (a + i)).toNat) = a + i + 1 + (bt s (a + i)).toNat by omega]
    · rw [zeroAt_out (by rw [ByteArray.size_extract]; omega), zeroAt_out (by omega)]; rfl
theorem endN_shift (s : ByteArray) (a : Nat) (ha : a ≤ s.size) : endN (s.extract a s.size) 0 = if endN s a < 0 then -1 else endN s a - a := by
  have e := zeroAt_shift s a ha _ 0 (Nat.le_refl _)
  unfold endN
  rw [e]
  simp only [Nat.add_zero]
  cases hz : zeroAt s a with
  | none => rfl
  | some p =>
    have := zeroAt_ge _ a p (Nat.le_refl _) hz
    simp only [Option.map_some]
    have ex : (s.extract a s.size).extract 0 (p - a + 1) = s.extract a (p + 1) := by
      rw [ByteArray.extract_extract]; congr 1 <;> omega
    rw [ex]
    split
    · rw [if_neg (by omega)]; omega
    · rfl
/-- Two names, and five numbers? -/
def soaB (s : ByteArray) : Bool := decide (0 ≤ endN s 0) && (decide (0 ≤ endN s (endN s 0).toNat) && decide ((s.size : Int) = endN s (endN s 0).toNat + 20))
theorem slice_a (s : ByteArray) (a : Nat) (h : a ≤ s.size) (w : World) : (Instr.slice 9 (.string s) (some (.int .i64 (a : Int))) none none).run Try.prog w = .ok (.string (s.extract a s.size)) w := by
  have hj : 0 ≤ (a : Int) ∧ (a : Int) ≤ (s.size : Int) := by omega
  simp [Instr.slice, Instr.sliceBounds, Instr.sliceBound, asIntOf, run_underlying Try.underlying9, hj]
  try omega
set_option maxHeartbeats 1000000 in
theorem soa (s : ByteArray) (w : World) (hs : s.size ≤ 9223372036854775000) : Calls Try.prog 46 #[.string s] w fun e w' => e = .returned (.bool (soaB s)) ∧ Below w.heap.size w w' := by
  have hB := @endN_bd s 0
  have hN := @endN_neg s 0
  by_cases h : endN s 0 < 0
  · have e1 : soaB s = false := by unfold soaB; simp; omega
    have q : endN s 0 = -1 := hN h
    go_enter Try.func46, Try.ntmps46
    go_wp2_with fail
    refine (ends s _ hs).mono ?_
    rintro e w1 ⟨rfl, hb1⟩
    rw [q]
    go_wp2
    go_ret
    exact ⟨by rw [e1]; rfl, hb1⟩
  · obtain ⟨n, hn⟩ : ∃ n : Nat, endN s 0 = n := ⟨(endN s 0).toNat, by omega⟩
    have hnb := hB (by omega)
    rw [hn] at hnb
    have hle : n ≤ s.size := by omega
    have q1 : decide ((n : Int) < 0) = false := by simp
    have hsh := endN_shift s n hle
    have hB2 := @endN_bd s n
    have hsz : (s.extract n s.size).size ≤ 9223372036854775000 := by rw [ByteArray.size_extract]; omega
    have e1 : soaB s = (decide (0 ≤ endN s n) && decide ((s.size : Int) = endN s n + 20)) := by unfold soaB; rw [hn]; simp
    by_cases h2 : endN s n < 0
    · rw [if_pos h2] at hsh
      have e2 : soaB s = false := by rw [e1]; simp; omega
      go_enter Try.func46, Try.ntmps46
      go_wp2_with fail
      refine (ends s _ hs).mono ?_
      rintro e w1 ⟨rfl, hb1⟩
      rw [hn]
      have hsl := slice_a s n hle w1
      go_wp2_with fail
      refine (ends _ _ hsz).mono ?_
      rintro e w2 ⟨rfl, hb2⟩
      rw [hsh]
      go_wp2
      go_ret
      exact ⟨by rw [e2]; rfl, below_next hb1 hb2⟩
    · obtain ⟨m, hm⟩ : ∃ m : Nat, endN s n = m := ⟨(endN s n).toNat, by omega⟩
      have hmb := hB2 (by omega)
      rw [if_neg h2, hm] at hsh
      rw [hm] at hmb
      obtain ⟨k, hk⟩ : ∃ k : Nat, (m : Int) - n = k := ⟨m - n, by omega⟩
      rw [hk] at hsh
      have q2 : decide ((k : Int) < 0) = false := by simp
      have w1' : wrap64 ((s.size : Int) - n) = (s.size : Int) - n := w64 (by omega) (by omega)
      have w2' : wrap64 ((s.size : Int) - n - k) = (s.size : Int) - n - k := w64 (by omega) (by omega)
      have e2 : soaB s = ((s.size : Int) - n - k == 20) := by rw [e1, hm, Bool.eq_iff_iff]; simp; omega
      have hn' := hn
      clear hmb hB hB2 hN e1 h h2 hm hn hnb hk
      have E2 := Lib.hid e2
      clear e2
      go_enter Try.func46, Try.ntmps46
      go_wp2_with fail
      refine (ends s _ hs).mono ?_
      rintro e w1 ⟨rfl, hb1⟩
      rw [hn']
      have hsl := slice_a s n hle w1
      go_wp2_with fail
      refine (ends _ _ hsz).mono ?_
      rintro e w2 ⟨rfl, hb2⟩
      rw [hsh]
      go_wp2
      go_ret
      exact ⟨by rw [E2.out]; rfl, below_next hb1 hb2⟩
/-- May data be for a type? -/
def mayD (t : Int) (s : ByteArray) : Bool :=
  if t < 1 then false else if 65535 < t then false else if 65535 < s.size then false else
  if t = 1 then decide (s.size = 4) else if t = 28 then decide (s.size = 16) else
  if t = 2 then nameB s else if t = 5 then nameB s else if t = 12 then nameB s else
  if t = 15 then decide (2 ≤ s.size) && nameB (s.extract 2 s.size) else
  if t = 6 then soaB s else if t = 16 then textsB s else true
end Go.Proofs.Ytepglkgpgoifkaa.Rd
