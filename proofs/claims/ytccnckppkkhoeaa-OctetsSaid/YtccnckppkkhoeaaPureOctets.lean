/- Every call of octet.U16, U32, Put16 and Put32 answers as the document's reference: for all strings and whole numbers; no condition. -/
import Derived.Test.YtccnckppkkhoeaaPOctetsx2
import Derived.Test.YtccnckppkkhoeaaBit
namespace Go.Proofs.Ytccnckppkkhoeaa.Pure
open Go.RowKit Go.Proofs.Ytccnckppkkhoeaa.POctets Go.Proofs.YtccnckppkkhoeaaW.PrintWords Go.Proofs.YtccnckppkkhoeaaW.PrintLast Go.Proofs.Ytccnckppkkhoeaa.Bit0

theorem num2_ (s : ByteArray) (i : Int) (hs : s.size ≤ 9223372036854775807 - 16) : octet_number.f 20 s i 2 = if 0 ≤ i ∧ i + 2 ≤ s.size then some (bt s i * 256 + bt s (i + 1), i + 2, 0) else some (0, 0, 300) := by
  unfold octet_number.f
  by_cases h1 : i < 0
  · rw [if_pos h1, if_neg (by omega)]; simp [octet_number.j0]
  · rw [if_neg h1]
    by_cases h2 : i > (s.size : Int)
    · rw [if_pos h2, if_neg (by omega)]; simp [octet_number.j0]
    · rw [if_neg h2, w64 (by omega) (by omega)]
      by_cases h3 : (s.size : Int) - i < 2
      · rw [decide_eq_true h3, if_neg (by omega)]; simp [octet_number.j0]
      · rw [decide_eq_false h3, if_pos (by omega)]
        have b0 := bt_range s i
        have b1 := bt_range s (i + 1)
        simp only [octet_number.j0, octet_number.l0]
        simp only [Bool.false_eq_true, if_false, Int.add_zero]
        rw [if_pos (by decide), w64 (x := i) (by omega) (by omega), if_pos (by omega), if_pos (by omega)]
        rw [show (wrap64 (0 + 1)) = 1 by decide +kernel, if_pos (by decide), w64 (x := i + 1) (by omega) (by omega), if_pos (by omega), if_pos (by omega)]
        rw [show (wrap64 (1 + 1)) = 2 by decide +kernel, if_neg (by decide), w64 (x := i + 2) (by omega) (by omega)]
        rw [show (wrap64 (0 * 256)) = 0 * 256 by decide +kernel, w64 (x := bt s i) (by omega) (by omega), or_shl8 _ _ (by omega) (by omega) (by omega) (by omega)]
        rw [w64 (x := (0 * 256 + bt s i) * 256) (by omega) (by omega), w64 (x := bt s (i + 1)) (by omega) (by omega), or_shl8 _ _ (by omega) (by omega) (by omega) (by omega)]
        rw [Int.zero_mul, Int.zero_add]
theorem num4_ (s : ByteArray) (i : Int) (hs : s.size ≤ 9223372036854775807 - 16) : octet_number.f 20 s i 4 = if 0 ≤ i ∧ i + 4 ≤ s.size then some (((bt s i * 256 + bt s (i + 1)) * 256 + bt s (i + 2)) * 256 + bt s (i + 3), i + 4, 0) else some (0, 0, 300) := by
  unfold octet_number.f
  by_cases h1 : i < 0
  · rw [if_pos h1, if_neg (by omega)]; simp [octet_number.j0]
  · rw [if_neg h1]
    by_cases h2 : i > (s.size : Int)
    · rw [if_pos h2, if_neg (by omega)]; simp [octet_number.j0]
    · rw [if_neg h2, w64 (by omega) (by omega)]
      by_cases h3 : (s.size : Int) - i < 4
      · rw [decide_eq_true h3, if_neg (by omega)]; simp [octet_number.j0]
      · rw [decide_eq_false h3, if_pos (by omega)]
        have b0 := bt_range s i
        have b1 := bt_range s (i + 1)
        have b2 := bt_range s (i + 2)
        have b3 := bt_range s (i + 3)
        simp only [octet_number.j0, octet_number.l0]
        simp only [Bool.false_eq_true, if_false, Int.add_zero]
        rw [if_pos (by decide), w64 (x := i) (by omega) (by omega), if_pos (by omega), if_pos (by omega)]
        rw [show (wrap64 (0 + 1)) = 1 by decide +kernel, if_pos (by decide), w64 (x := i + 1) (by omega) (by omega), if_pos (by omega), if_pos (by omega)]
        rw [show (wrap64 (1 + 1)) = 2 by decide +kernel, if_pos (by decide), w64 (x := i + 2) (by omega) (by omega), if_pos (by omega), if_pos (by omega)]
        rw [show (wrap64 (2 + 1)) = 3 by decide +kernel, if_pos (by decide), w64 (x := i + 3) (by omega) (by omega), if_pos (by omega), if_pos (by omega)]
        rw [show (wrap64 (3 + 1)) = 4 by decide +kernel, if_neg (by decide), w64 (x := i + 4) (by omega) (by omega)]
        rw [show (wrap64 (0 * 256)) = 0 * 256 by decide +kernel, w64 (x := bt s i) (by omega) (by omega), or_shl8 _ _ (by omega) (by omega) (by omega) (by omega)]
        rw [w64 (x := (0 * 256 + bt s i) * 256) (by omega) (by omega), w64 (x := bt s (i + 1)) (by omega) (by omega), or_shl8 _ _ (by omega) (by omega) (by omega) (by omega)]
        rw [w64 (x := ((0 * 256 + bt s i) * 256 + bt s (i + 1)) * 256) (by omega) (by omega), w64 (x := bt s (i + 2)) (by omega) (by omega), or_shl8 _ _ (by omega) (by omega) (by omega) (by omega)]
        rw [w64 (x := (((0 * 256 + bt s i) * 256 + bt s (i + 1)) * 256 + bt s (i + 2)) * 256) (by omega) (by omega), w64 (x := bt s (i + 3)) (by omega) (by omega), or_shl8 _ _ (by omega) (by omega) (by omega) (by omega)]
        rw [Int.zero_mul, Int.zero_add]
theorem u16_ (s : ByteArray) (i : Int) (hs : s.size ≤ 9223372036854775807 - 16) : octet_U16.f 20 s i = if 0 ≤ i ∧ i + 2 ≤ s.size then some (bt s i * 256 + bt s (i + 1), i + 2, 0) else some (0, 0, 300) := by
  unfold octet_U16.f
  rw [num2_ s i hs]
  split <;> rfl
theorem u32_ (s : ByteArray) (i : Int) (hs : s.size ≤ 9223372036854775807 - 16) : octet_U32.f 20 s i = if 0 ≤ i ∧ i + 4 ≤ s.size then some (((bt s i * 256 + bt s (i + 1)) * 256 + bt s (i + 2)) * 256 + bt s (i + 3), i + 4, 0) else some (0, 0, 300) := by
  unfold octet_U32.f
  rw [num4_ s i hs]
  split <;> rfl
theorem put16_ (x : Int) : octet_Put16.f x = some (strOfNums [(x / 256) % 256, x % 256]) := rfl
theorem strOfNums_append (xs ys : List Int) : strOfNums xs ++ strOfNums ys = strOfNums (xs ++ ys) := by
  apply ByteArray.ext
  apply Array.ext'
  simp [strOfNums, ByteArray.data_append]
theorem put32_ (x : Int) : octet_Put32.f x = some (strOfNums [(x / 16777216) % 256, (x / 65536) % 256, (x / 256) % 256, x % 256]) := by
  unfold octet_Put32.f
  simp only [put16_, Option.bind_some]
  rw [if_pos (by simp [strOfNums_size]), strOfNums_append, show x / 65536 / 256 = x / 16777216 by omega]
  rfl
theorem awake_ : wimplelaw3_awake.f 20 = some true := by decide +kernel
theorem rnum2_ (s : ByteArray) (i : Int) (hs : s.size ≤ 9223372036854775807 - 16) : wimpleref1_Num.f 20 s i 2 = if 0 ≤ i ∧ i + 2 ≤ s.size then some (bt s i * 256 + bt s (i + 1), i + 2, 0) else some (0, 0, 300) := by
  unfold wimpleref1_Num.f
  by_cases h1 : i < 0
  · rw [if_pos h1, if_neg (by omega)]; simp [wimpleref1_Num.j0]
  · rw [if_neg h1]
    by_cases h2 : i > (s.size : Int)
    · rw [if_pos h2, if_neg (by omega)]; simp [wimpleref1_Num.j0]
    · rw [if_neg h2, w64 (by omega) (by omega)]
      by_cases h3 : (2 : Int) > (s.size : Int) - i
      · rw [decide_eq_true h3, if_neg (by omega)]; simp [wimpleref1_Num.j0]
      · rw [decide_eq_false h3, if_pos (by omega)]
        have b0 := bt_range s i
        have b1 := bt_range s (i + 1)
        simp only [wimpleref1_Num.j0, wimpleref1_Num.l0]
        simp only [Bool.false_eq_true, if_false, Int.add_zero]
        rw [if_pos (by decide), w64 (x := i) (by omega) (by omega), if_pos (by omega), if_pos (by omega)]
        rw [show (wrap64 (0 + 1)) = 1 by decide +kernel, if_pos (by decide), w64 (x := i + 1) (by omega) (by omega), if_pos (by omega), if_pos (by omega)]
        rw [show (wrap64 (1 + 1)) = 2 by decide +kernel, if_neg (by decide), w64 (x := i + 2) (by omega) (by omega)]
        rw [show (wrap64 (0 * 256)) = 0 * 256 by decide +kernel, w64 (x := bt s i) (by omega) (by omega), or_shl8 _ _ (by omega) (by omega) (by omega) (by omega)]
        rw [w64 (x := (0 * 256 + bt s i) * 256) (by omega) (by omega), w64 (x := bt s (i + 1)) (by omega) (by omega), or_shl8 _ _ (by omega) (by omega) (by omega) (by omega)]
        rw [Int.zero_mul, Int.zero_add]
theorem rnum4_ (s : ByteArray) (i : Int) (hs : s.size ≤ 9223372036854775807 - 16) : wimpleref1_Num.f 20 s i 4 = if 0 ≤ i ∧ i + 4 ≤ s.size then some (((bt s i * 256 + bt s (i + 1)) * 256 + bt s (i + 2)) * 256 + bt s (i + 3), i + 4, 0) else some (0, 0, 300) := by
  unfold wimpleref1_Num.f
  by_cases h1 : i < 0
  · rw [if_pos h1, if_neg (by omega)]; simp [wimpleref1_Num.j0]
  · rw [if_neg h1]
    by_cases h2 : i > (s.size : Int)
    · rw [if_pos h2, if_neg (by omega)]; simp [wimpleref1_Num.j0]
    · rw [if_neg h2, w64 (by omega) (by omega)]
      by_cases h3 : (4 : Int) > (s.size : Int) - i
      · rw [decide_eq_true h3, if_neg (by omega)]; simp [wimpleref1_Num.j0]
      · rw [decide_eq_false h3, if_pos (by omega)]
        have b0 := bt_range s i
        have b1 := bt_range s (i + 1)
        have b2 := bt_range s (i + 2)
        have b3 := bt_range s (i + 3)
        simp only [wimpleref1_Num.j0, wimpleref1_Num.l0]
        simp only [Bool.false_eq_true, if_false, Int.add_zero]
        rw [if_pos (by decide), w64 (x := i) (by omega) (by omega), if_pos (by omega), if_pos (by omega)]
        rw [show (wrap64 (0 + 1)) = 1 by decide +kernel, if_pos (by decide), w64 (x := i + 1) (by omega) (by omega), if_pos (by omega), if_pos (by omega)]
        rw [show (wrap64 (1 + 1)) = 2 by decide +kernel, if_pos (by decide), w64 (x := i + 2) (by omega) (by omega), if_pos (by omega), if_pos (by omega)]
        rw [show (wrap64 (2 + 1)) = 3 by decide +kernel, if_pos (by decide), w64 (x := i + 3) (by omega) (by omega), if_pos (by omega), if_pos (by omega)]
        rw [show (wrap64 (3 + 1)) = 4 by decide +kernel, if_neg (by decide), w64 (x := i + 4) (by omega) (by omega)]
        rw [show (wrap64 (0 * 256)) = 0 * 256 by decide +kernel, w64 (x := bt s i) (by omega) (by omega), or_shl8 _ _ (by omega) (by omega) (by omega) (by omega)]
        rw [w64 (x := (0 * 256 + bt s i) * 256) (by omega) (by omega), w64 (x := bt s (i + 1)) (by omega) (by omega), or_shl8 _ _ (by omega) (by omega) (by omega) (by omega)]
        rw [w64 (x := ((0 * 256 + bt s i) * 256 + bt s (i + 1)) * 256) (by omega) (by omega), w64 (x := bt s (i + 2)) (by omega) (by omega), or_shl8 _ _ (by omega) (by omega) (by omega) (by omega)]
        rw [w64 (x := (((0 * 256 + bt s i) * 256 + bt s (i + 1)) * 256 + bt s (i + 2)) * 256) (by omega) (by omega), w64 (x := bt s (i + 3)) (by omega) (by omega), or_shl8 _ _ (by omega) (by omega) (by omega) (by omega)]
        rw [Int.zero_mul, Int.zero_add]

theorem be2_ (x : Int) : wimpleref1_Be.f 20 x 2 = some (strOfNums [(x / 256) % 256, x % 256]) := by
  unfold wimpleref1_Be.f
  rw [if_pos (by decide), if_pos (by decide), u64_wrap]
  rw [show wrap64 (2 - 1) = 1 by decide +kernel, show List.replicate (2 : Int).toNat (0 : Int) = [0, 0] by decide]
  simp only [wimpleref1_Be.l0]
  rw [if_pos (by decide), if_pos (by decide), if_pos (by decide)]
  rw [u64_and255 _ (by omega) (by omega), show wrap64 (1 - 1) = 0 by decide +kernel]
  rw [if_pos (by decide), if_pos (by decide), if_pos (by simp)]
  rw [u64_and255 _ (by omega) (by omega), show wrap64 (0 - 1) = -1 by decide +kernel, if_neg (by decide)]
  simp only [show (1 : Int).toNat = 1 by decide, show (0 : Int).toNat = 0 by decide, List.set]
  rw [show x % 18446744073709551616 / 256 % 256 % 256 = x / 256 % 256 by omega, show x % 18446744073709551616 % 256 % 256 = x % 256 by omega]
theorem be4_ (x : Int) : wimpleref1_Be.f 20 x 4 = some (strOfNums [(x / 16777216) % 256, (x / 65536) % 256, (x / 256) % 256, x % 256]) := by
  unfold wimpleref1_Be.f
  rw [if_pos (by decide), if_pos (by decide), u64_wrap]
  rw [show wrap64 (4 - 1) = 3 by decide +kernel, show List.replicate (4 : Int).toNat (0 : Int) = [0, 0, 0, 0] by decide]
  simp only [wimpleref1_Be.l0]
  rw [if_pos (by decide), if_pos (by decide), if_pos (by decide)]
  rw [u64_and255 _ (by omega) (by omega), show wrap64 (3 - 1) = 2 by decide +kernel]
  rw [if_pos (by decide), if_pos (by decide), if_pos (by simp)]
  rw [u64_and255 _ (by omega) (by omega), show wrap64 (2 - 1) = 1 by decide +kernel]
  rw [if_pos (by decide), if_pos (by decide), if_pos (by simp)]
  rw [u64_and255 _ (by omega) (by omega), show wrap64 (1 - 1) = 0 by decide +kernel]
  rw [if_pos (by decide), if_pos (by decide), if_pos (by simp)]
  rw [u64_and255 _ (by omega) (by omega), show wrap64 (0 - 1) = -1 by decide +kernel, if_neg (by decide)]
  simp only [show (3 : Int).toNat = 3 by decide, show (2 : Int).toNat = 2 by decide, show (1 : Int).toNat = 1 by decide, show (0 : Int).toNat = 0 by decide, List.set]
  rw [show x % 18446744073709551616 / 256 / 256 / 256 % 256 % 256 = x / 16777216 % 256 by omega, show x % 18446744073709551616 / 256 / 256 % 256 % 256 = x / 65536 % 256 by omega, show x % 18446744073709551616 / 256 % 256 % 256 = x / 256 % 256 by omega, show x % 18446744073709551616 % 256 % 256 = x % 256 by omega]

/-- The statement over numbers and lists. -/
theorem Octets : wimplelaw3_Octets.Pure := by
  intro s i x hs _ _
  refine ⟨20, ?_⟩
  unfold wimplelaw3_Octets.f
  rw [u16_ s i (by omega), u32_ s i (by omega), rnum2_ s i (by omega), rnum4_ s i (by omega)]
  obtain ⟨p, hp⟩ : ∃ p, (if 0 ≤ i ∧ i + 2 ≤ s.size then some (bt s i * 256 + bt s (i + 1), i + 2, (0 : Int)) else some (0, 0, 300)) = some p := by split <;> exact ⟨_, rfl⟩
  obtain ⟨q, hq⟩ : ∃ p, (if 0 ≤ i ∧ i + 4 ≤ s.size then some (((bt s i * 256 + bt s (i + 1)) * 256 + bt s (i + 2)) * 256 + bt s (i + 3), i + 4, (0 : Int)) else some (0, 0, 300)) = some p := by split <;> exact ⟨_, rfl⟩
  rw [hp, hq]
  simp only [put16_, put32_, be2_, be4_, awake_, Option.bind_some, wimplelaw0_Num.f, if_true]

end Go.Proofs.Ytccnckppkkhoeaa.Pure
