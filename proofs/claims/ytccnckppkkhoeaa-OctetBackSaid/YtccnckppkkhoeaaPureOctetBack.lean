/- Any whole number that octet.Put16 or Put32 writes behind a string is read back there by U16 or U32, modulo its width: for all strings and whole numbers; no condition. -/
import Derived.Test.YtccnckppkkhoeaaPOctetBackx1
import Derived.Test.YtccnckppkkhoeaaBit
namespace Go.Proofs.Ytccnckppkkhoeaa.Pure
open Go.RowKit Go.Proofs.Ytccnckppkkhoeaa.POctetBack Go.Proofs.YtccnckppkkhoeaaW.PrintWords Go.Proofs.YtccnckppkkhoeaaW.PrintLast Go.Proofs.Ytccnckppkkhoeaa.Bit0

theorem num2_ (s : ByteArray) (i : Int) (hs : s.size ≤ 9223372036854775807 - 16) : octet_number.f 20 s i 2 = if 0 ≤ i ∧ i + 2 ≤ s.size then some (bt s i * 256 + bt s (i + 1), i + 2, 0) else some (0, 0, 300) := by
  unfold octet_number.f
  by_cases h1 : i < 0
  · rw [if_pos h1, if_neg (by omega)]; simp [octet_number.j0]
  · rw [if_neg h1]
    by_cases h2 : i > (s.size : Int)
    · rw [if_pos h2, if_neg (by omega)]; simp [octet_number.j0]
    · rw [if_neg h2, w64 (by omega) (by omega)]
      by_cases h3 : (s.size : Int) - i < 2
      · rw [decide_eq_true h3, if_neg (by omega)]; simp [octet_number.j0]
      · rw [decide_eq_false h3, if_pos (by omega)]
        have b0 := bt_range s i
        have b1 := bt_range s (i + 1)
        simp only [octet_number.j0, octet_number.l0]
        simp only [Bool.false_eq_true, if_false, Int.add_zero]
        rw [if_pos (by decide), w64 (x := i) (by omega) (by omega), if_pos (by omega), if_pos (by omega)]
        rw [show (wrap64 (0 + 1)) = 1 by decide +kernel, if_pos (by decide), w64 (x := i + 1) (by omega) (by omega), if_pos (by omega), if_pos (by omega)]
        rw [show (wrap64 (1 + 1)) = 2 by decide +kernel, if_neg (by decide), w64 (x := i + 2) (by omega) (by omega)]
        rw [show (wrap64 (0 * 256)) = 0 * 256 by decide +kernel, w64 (x := bt s i) (by omega) (by omega), or_shl8 _ _ (by omega) (by omega) (by omega) (by omega)]
        rw [w64 (x := (0 * 256 + bt s i) * 256) (by omega) (by omega), w64 (x := bt s (i + 1)) (by omega) (by omega), or_shl8 _ _ (by omega) (by omega) (by omega) (by omega)]
        rw [Int.zero_mul, Int.zero_add]
theorem num4_ (s : ByteArray) (i : Int) (hs : s.size ≤ 9223372036854775807 - 16) : octet_number.f 20 s i 4 = if 0 ≤ i ∧ i + 4 ≤ s.size then some (((bt s i * 256 + bt s (i + 1)) * 256 + bt s (i + 2)) * 256 + bt s (i + 3), i + 4, 0) else some (0, 0, 300) := by
  unfold octet_number.f
  by_cases h1 : i < 0
  · rw [if_pos h1, if_neg (by omega)]; simp [octet_number.j0]
  · rw [if_neg h1]
    by_cases h2 : i > (s.size : Int)
    · rw [if_pos h2, if_neg (by omega)]; simp [octet_number.j0]
    · rw [if_neg h2, w64 (by omega) (by omega)]
      by_cases h3 : (s.size : Int) - i < 4
      · rw [decide_eq_true h3, if_neg (by omega)]; simp [octet_number.j0]
      · rw [decide_eq_false h3, if_pos (by omega)]
        have b0 := bt_range s i
        have b1 := bt_range s (i + 1)
        have b2 := bt_range s (i + 2)
        have b3 := bt_range s (i + 3)
        simp only [octet_number.j0, octet_number.l0]
        simp only [Bool.false_eq_true, if_false, Int.add_zero]
        rw [if_pos (by decide), w64 (x := i) (by omega) (by omega), if_pos (by omega), if_pos (by omega)]
        rw [show (wrap64 (0 + 1)) = 1 by decide +kernel, if_pos (by decide), w64 (x := i + 1) (by omega) (by omega), if_pos (by omega), if_pos (by omega)]
        rw [show (wrap64 (1 + 1)) = 2 by decide +kernel, if_pos (by decide), w64 (x := i + 2) (by omega) (by omega), if_pos (by omega), if_pos (by omega)]
        rw [show (wrap64 (2 + 1)) = 3 by decide +kernel, if_pos (by decide), w64 (x := i + 3) (by omega) (by omega), if_pos (by omega), if_pos (by omega)]
        rw [show (wrap64 (3 + 1)) = 4 by decide +kernel, if_neg (by decide), w64 (x := i + 4) (by omega) (by omega)]
        rw [show (wrap64 (0 * 256)) = 0 * 256 by decide +kernel, w64 (x := bt s i) (by omega) (by omega), or_shl8 _ _ (by omega) (by omega) (by omega) (by omega)]
        rw [w64 (x := (0 * 256 + bt s i) * 256) (by omega) (by omega), w64 (x := bt s (i + 1)) (by omega) (by omega), or_shl8 _ _ (by omega) (by omega) (by omega) (by omega)]
        rw [w64 (x := ((0 * 256 + bt s i) * 256 + bt s (i + 1)) * 256) (by omega) (by omega), w64 (x := bt s (i + 2)) (by omega) (by omega), or_shl8 _ _ (by omega) (by omega) (by omega) (by omega)]
        rw [w64 (x := (((0 * 256 + bt s i) * 256 + bt s (i + 1)) * 256 + bt s (i + 2)) * 256) (by omega) (by omega), w64 (x := bt s (i + 3)) (by omega) (by omega), or_shl8 _ _ (by omega) (by omega) (by omega) (by omega)]
        rw [Int.zero_mul, Int.zero_add]
theorem u16_ (s : ByteArray) (i : Int) (hs : s.size ≤ 9223372036854775807 - 16) : octet_U16.f 20 s i = if 0 ≤ i ∧ i + 2 ≤ s.size then some (bt s i * 256 + bt s (i + 1), i + 2, 0) else some (0, 0, 300) := by
  unfold octet_U16.f
  rw [num2_ s i hs]
  split <;> rfl
theorem u32_ (s : ByteArray) (i : Int) (hs : s.size ≤ 9223372036854775807 - 16) : octet_U32.f 20 s i = if 0 ≤ i ∧ i + 4 ≤ s.size then some (((bt s i * 256 + bt s (i + 1)) * 256 + bt s (i + 2)) * 256 + bt s (i + 3), i + 4, 0) else some (0, 0, 300) := by
  unfold octet_U32.f
  rw [num4_ s i hs]
  split <;> rfl
theorem put16_ (x : Int) : octet_Put16.f x = some (strOfNums [(x / 256) % 256, x % 256]) := rfl
theorem strOfNums_append (xs ys : List Int) : strOfNums xs ++ strOfNums ys = strOfNums (xs ++ ys) := by
  apply ByteArray.ext
  apply Array.ext'
  simp [strOfNums, ByteArray.data_append]
theorem put32_ (x : Int) : octet_Put32.f x = some (strOfNums [(x / 16777216) % 256, (x / 65536) % 256, (x / 256) % 256, x % 256]) := by
  unfold octet_Put32.f
  simp only [put16_, Option.bind_some]
  rw [if_pos (by simp [strOfNums_size]), strOfNums_append, show x / 65536 / 256 = x / 16777216 by omega]
  rfl
theorem awake_ : wimplelaw3_awake.f 20 = some true := by decide +kernel
theorem len_data (s : ByteArray) : s.data.toList.length = s.size := by rw [Array.length_toList]; rfl
theorem data_get (s : ByteArray) (i : Nat) (h : i < s.size) : ((s[i]'h).toNat : Int) = ((s.data.toList.getD i 0).toNat : Int) := by
  have : i < s.data.toList.length := by rw [len_data]; exact h
  rw [List.getD_eq_getElem?_getD, List.getElem?_eq_getElem this]
  rfl
theorem bt_data (s : ByteArray) (i : Int) : bt s i = ((s.data.toList.getD i.toNat 0).toNat : Int) := by
  unfold bt
  split
  · exact data_get s _ _
  · rename_i h
    rw [List.getD_eq_getElem?_getD, List.getElem?_eq_none (by rw [len_data]; omega)]
    rfl
theorem bt_append_right (s t : ByteArray) (i : Int) (h : (s.size : Int) ≤ i) : bt (s ++ t) i = bt t (i - s.size) := by
  rw [bt_data, bt_data]
  congr 2
  rw [ByteArray.data_append, Array.toList_append, List.getD_eq_getElem?_getD, List.getD_eq_getElem?_getD, List.getElem?_append_right (by rw [len_data]; omega), len_data]
  congr 2
  omega
theorem bt_append_left (s t : ByteArray) (i : Int) (h : i < (s.size : Int)) (h0 : 0 ≤ i) : bt (s ++ t) i = bt s i := by
  rw [bt_data, bt_data]
  congr 2
  rw [ByteArray.data_append, Array.toList_append, List.getD_eq_getElem?_getD, List.getD_eq_getElem?_getD, List.getElem?_append_left (by rw [len_data]; omega)]
theorem bt_nums (xs : List Int) (i : Int) (x : Int) (h : xs[i.toNat]? = some x) (h0 : 0 ≤ x) (h1 : x < 256) : bt (strOfNums xs) i = x := by
  rw [bt_data, strOfNums_data, List.getD_eq_getElem?_getD, List.getElem?_map, h]
  show ((UInt8.ofNat x.toNat).toNat : Int) = x
  rw [UInt8.toNat_ofNat']
  omega

/-- The statement over numbers and lists. -/
theorem OctetBack : wimplelaw3_OctetBack.Pure := by
  intro x s _ hs
  refine ⟨20, ?_⟩
  unfold wimplelaw3_OctetBack.f
  simp only [put16_, put32_, awake_, Option.bind_some, if_true]
  have e2 : (strOfNums [(x / 256) % 256, x % 256]).size = 2 := by simp [strOfNums_size]
  have e4 : (strOfNums [(x / 16777216) % 256, (x / 65536) % 256, (x / 256) % 256, x % 256]).size = 4 := by simp [strOfNums_size]
  rw [e2, e4, if_pos (by omega), u16_ _ _ (by rw [ByteArray.size_append, e2]; omega)]
  rw [if_pos (by rw [ByteArray.size_append, e2]; omega), Option.bind_some, if_pos (by omega), u32_ _ _ (by rw [ByteArray.size_append, e4]; omega)]
  rw [if_pos (by rw [ByteArray.size_append, e4]; omega), Option.bind_some]
  simp only [wimplelaw0_Num.f, Option.bind_some]
  rw [and_65535, and_4294967295, w64 (by omega) (by omega), w64 (by omega) (by omega)]
  rw [bt_append_right _ _ _ (by omega), bt_append_right _ _ _ (by omega), bt_append_right _ _ _ (by omega), bt_append_right _ _ _ (by omega), bt_append_right _ _ _ (by omega), bt_append_right _ _ _ (by omega)]
  rw [bt_nums _ _ (x / 256 % 256) (by rw [show ((s.size : Int) - s.size).toNat = 0 by omega]; rfl) (by omega) (by omega)]
  rw [bt_nums _ _ (x % 256) (by rw [show ((s.size : Int) + 1 - s.size).toNat = 1 by omega]; rfl) (by omega) (by omega)]
  rw [bt_nums _ _ (x / 16777216 % 256) (by rw [show ((s.size : Int) - s.size).toNat = 0 by omega]; rfl) (by omega) (by omega)]
  rw [bt_nums _ _ (x / 65536 % 256) (by rw [show ((s.size : Int) + 1 - s.size).toNat = 1 by omega]; rfl) (by omega) (by omega)]
  rw [bt_nums _ _ (x / 256 % 256) (by rw [show ((s.size : Int) + 2 - s.size).toNat = 2 by omega]; rfl) (by omega) (by omega)]
  rw [bt_nums _ _ (x % 256) (by rw [show ((s.size : Int) + 3 - s.size).toNat = 3 by omega]; rfl) (by omega) (by omega)]
  have q2 : x / 256 % 256 * 256 + x % 256 = x % 65536 := by omega
  have q4 : ((x / 16777216 % 256 * 256 + x / 65536 % 256) * 256 + x / 256 % 256) * 256 + x % 256 = x % 4294967296 := by omega
  rw [q2, q4]
  simp only [if_true]
  rfl

end Go.Proofs.Ytccnckppkkhoeaa.Pure
