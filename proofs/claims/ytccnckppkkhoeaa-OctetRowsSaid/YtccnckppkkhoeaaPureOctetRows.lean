/- Numbers that octet.Put16 and Put32 write one behind the other are read again by U16 and U32, each where the one ahead ended, and behind the last nothing is: for every list of whole numbers; no condition. -/
import Derived.Test.YtccnckppkkhoeaaPOctetRowsx2
import Derived.Test.YtccnckppkkhoeaaBit
namespace Go.Proofs.Ytccnckppkkhoeaa.Pure
open Go.RowKit Go.Proofs.Ytccnckppkkhoeaa.POctetRows Go.Proofs.YtccnckppkkhoeaaW.PrintWords Go.Proofs.YtccnckppkkhoeaaW.PrintLast Go.Proofs.Ytccnckppkkhoeaa.Bit0

theorem num2_ (s : ByteArray) (i : Int) (hs : s.size ≤ 9223372036854775807 - 16) : octet_number.f 20 s i 2 = if 0 ≤ i ∧ i + 2 ≤ s.size then some (bt s i * 256 + bt s (i + 1), i + 2, 0) else some (0, 0, 300) := by
  unfold octet_number.f
  by_cases h1 : i < 0
  · rw [if_pos h1, if_neg (by omega)]; simp [octet_number.j0]
  · rw [if_neg h1]
    by_cases h2 : i > (s.size : Int)
    · rw [if_pos h2, if_neg (by omega)]; simp [octet_number.j0]
    · rw [if_neg h2, w64 (by omega) (by omega)]
      by_cases h3 : (s.size : Int) - i < 2
      · rw [decide_eq_true h3, if_neg (by omega)]; simp [octet_number.j0]
      · rw [decide_eq_false h3, if_pos (by omega)]
        have b0 := bt_range s i
        have b1 := bt_range s (i + 1)
        simp only [octet_number.j0, octet_number.l0]
        simp only [Bool.false_eq_true, if_false, Int.add_zero]
        rw [if_pos (by decide), w64 (x := i) (by omega) (by omega), if_pos (by omega), if_pos (by omega)]
        rw [show (wrap64 (0 + 1)) = 1 by decide +kernel, if_pos (by decide), w64 (x := i + 1) (by omega) (by omega), if_pos (by omega), if_pos (by omega)]
        rw [show (wrap64 (1 + 1)) = 2 by decide +kernel, if_neg (by decide), w64 (x := i + 2) (by omega) (by omega)]
        rw [show (wrap64 (0 * 256)) = 0 * 256 by decide +kernel, w64 (x := bt s i) (by omega) (by omega), or_shl8 _ _ (by omega) (by omega) (by omega) (by omega)]
        rw [w64 (x := (0 * 256 + bt s i) * 256) (by omega) (by omega), w64 (x := bt s (i + 1)) (by omega) (by omega), or_shl8 _ _ (by omega) (by omega) (by omega) (by omega)]
        rw [Int.zero_mul, Int.zero_add]
theorem num4_ (s : ByteArray) (i : Int) (hs : s.size ≤ 9223372036854775807 - 16) : octet_number.f 20 s i 4 = if 0 ≤ i ∧ i + 4 ≤ s.size then some (((bt s i * 256 + bt s (i + 1)) * 256 + bt s (i + 2)) * 256 + bt s (i + 3), i + 4, 0) else some (0, 0, 300) := by
  unfold octet_number.f
  by_cases h1 : i < 0
  · rw [if_pos h1, if_neg (by omega)]; simp [octet_number.j0]
  · rw [if_neg h1]
    by_cases h2 : i > (s.size : Int)
    · rw [if_pos h2, if_neg (by omega)]; simp [octet_number.j0]
    · rw [if_neg h2, w64 (by omega) (by omega)]
      by_cases h3 : (s.size : Int) - i < 4
      · rw [decide_eq_true h3, if_neg (by omega)]; simp [octet_number.j0]
      · rw [decide_eq_false h3, if_pos (by omega)]
        have b0 := bt_range s i
        have b1 := bt_range s (i + 1)
        have b2 := bt_range s (i + 2)
        have b3 := bt_range s (i + 3)
        simp only [octet_number.j0, octet_number.l0]
        simp only [Bool.false_eq_true, if_false, Int.add_zero]
        rw [if_pos (by decide), w64 (x := i) (by omega) (by omega), if_pos (by omega), if_pos (by omega)]
        rw [show (wrap64 (0 + 1)) = 1 by decide +kernel, if_pos (by decide), w64 (x := i + 1) (by omega) (by omega), if_pos (by omega), if_pos (by omega)]
        rw [show (wrap64 (1 + 1)) = 2 by decide +kernel, if_pos (by decide), w64 (x := i + 2) (by omega) (by omega), if_pos (by omega), if_pos (by omega)]
        rw [show (wrap64 (2 + 1)) = 3 by decide +kernel, if_pos (by decide), w64 (x := i + 3) (by omega) (by omega), if_pos (by omega), if_pos (by omega)]
        rw [show (wrap64 (3 + 1)) = 4 by decide +kernel, if_neg (by decide), w64 (x := i + 4) (by omega) (by omega)]
        rw [show (wrap64 (0 * 256)) = 0 * 256 by decide +kernel, w64 (x := bt s i) (by omega) (by omega), or_shl8 _ _ (by omega) (by omega) (by omega) (by omega)]
        rw [w64 (x := (0 * 256 + bt s i) * 256) (by omega) (by omega), w64 (x := bt s (i + 1)) (by omega) (by omega), or_shl8 _ _ (by omega) (by omega) (by omega) (by omega)]
        rw [w64 (x := ((0 * 256 + bt s i) * 256 + bt s (i + 1)) * 256) (by omega) (by omega), w64 (x := bt s (i + 2)) (by omega) (by omega), or_shl8 _ _ (by omega) (by omega) (by omega) (by omega)]
        rw [w64 (x := (((0 * 256 + bt s i) * 256 + bt s (i + 1)) * 256 + bt s (i + 2)) * 256) (by omega) (by omega), w64 (x := bt s (i + 3)) (by omega) (by omega), or_shl8 _ _ (by omega) (by omega) (by omega) (by omega)]
        rw [Int.zero_mul, Int.zero_add]
theorem u16_ (s : ByteArray) (i : Int) (hs : s.size ≤ 9223372036854775807 - 16) : octet_U16.f 20 s i = if 0 ≤ i ∧ i + 2 ≤ s.size then some (bt s i * 256 + bt s (i + 1), i + 2, 0) else some (0, 0, 300) := by
  unfold octet_U16.f
  rw [num2_ s i hs]
  split <;> rfl
theorem u32_ (s : ByteArray) (i : Int) (hs : s.size ≤ 9223372036854775807 - 16) : octet_U32.f 20 s i = if 0 ≤ i ∧ i + 4 ≤ s.size then some (((bt s i * 256 + bt s (i + 1)) * 256 + bt s (i + 2)) * 256 + bt s (i + 3), i + 4, 0) else some (0, 0, 300) := by
  unfold octet_U32.f
  rw [num4_ s i hs]
  split <;> rfl
theorem put16_ (x : Int) : octet_Put16.f x = some (strOfNums [(x / 256) % 256, x % 256]) := rfl
theorem strOfNums_append (xs ys : List Int) : strOfNums xs ++ strOfNums ys = strOfNums (xs ++ ys) := by
  apply ByteArray.ext
  apply Array.ext'
  simp [strOfNums, ByteArray.data_append]
theorem put32_ (x : Int) : octet_Put32.f x = some (strOfNums [(x / 16777216) % 256, (x / 65536) % 256, (x / 256) % 256, x % 256]) := by
  unfold octet_Put32.f
  simp only [put16_, Option.bind_some]
  rw [if_pos (by simp [strOfNums_size]), strOfNums_append, show x / 65536 / 256 = x / 16777216 by omega]
  rfl
theorem awake_ : wimplelaw3_awake.f 20 = some true := by decide +kernel
theorem len_data (s : ByteArray) : s.data.toList.length = s.size := by rw [Array.length_toList]; rfl
theorem data_get (s : ByteArray) (i : Nat) (h : i < s.size) : ((s[i]'h).toNat : Int) = ((s.data.toList.getD i 0).toNat : Int) := by
  have : i < s.data.toList.length := by rw [len_data]; exact h
  rw [List.getD_eq_getElem?_getD, List.getElem?_eq_getElem this]
  rfl
theorem bt_data (s : ByteArray) (i : Int) : bt s i = ((s.data.toList.getD i.toNat 0).toNat : Int) := by
  unfold bt
  split
  · exact data_get s _ _
  · rename_i h
    rw [List.getD_eq_getElem?_getD, List.getElem?_eq_none (by rw [len_data]; omega)]
    rfl
theorem bt_append_right (s t : ByteArray) (i : Int) (h : (s.size : Int) ≤ i) : bt (s ++ t) i = bt t (i - s.size) := by
  rw [bt_data, bt_data]
  congr 2
  rw [ByteArray.data_append, Array.toList_append, List.getD_eq_getElem?_getD, List.getD_eq_getElem?_getD, List.getElem?_append_right (by rw [len_data]; omega), len_data]
  congr 2
  omega
theorem bt_append_left (s t : ByteArray) (i : Int) (h : i < (s.size : Int)) (h0 : 0 ≤ i) : bt (s ++ t) i = bt s i := by
  rw [bt_data, bt_data]
  congr 2
  rw [ByteArray.data_append, Array.toList_append, List.getD_eq_getElem?_getD, List.getD_eq_getElem?_getD, List.getElem?_append_left (by rw [len_data]; omega)]
theorem bt_nums (xs : List Int) (i : Int) (x : Int) (h : xs[i.toNat]? = some x) (h0 : 0 ≤ x) (h1 : x < 256) : bt (strOfNums xs) i = x := by
  rw [bt_data, strOfNums_data, List.getD_eq_getElem?_getD, List.getElem?_map, h]
  show ((UInt8.ofNat x.toNat).toNat : Int) = x
  rw [UInt8.toNat_ofNat']
  omega

def piece (xs : List Int) (i : Nat) : ByteArray :=
  if i % 2 = 0 then strOfNums [(rd xs i / 256) % 256, rd xs i % 256] else strOfNums [(rd xs i / 16777216) % 256, (rd xs i / 65536) % 256, (rd xs i / 256) % 256, rd xs i % 256]
def S (xs : List Int) : Nat → ByteArray
  | 0 => ⟨#[]⟩
  | i + 1 => S xs i ++ piece xs i
theorem piece_size (xs : List Int) (i : Nat) : (piece xs i).size = if i % 2 = 0 then 2 else 4 := by
  unfold piece
  split <;> simp [strOfNums_size]
theorem S_size (xs : List Int) : ∀ i, (S xs i).size ≤ 4 * i
  | 0 => Nat.le_refl 0
  | i + 1 => by
    have := S_size xs i
    have h := piece_size xs i
    simp only [S, ByteArray.size_append]
    split at h <;> omega
theorem S_split (xs : List Int) (i : Nat) : ∀ d, ∃ r, S xs (i + d) = S xs i ++ r
  | 0 => ⟨ByteArray.empty, by simp⟩
  | d + 1 => by
    obtain ⟨r, h⟩ := S_split xs i d
    exact ⟨r ++ piece xs (i + d), by rw [← Nat.add_assoc]; simp only [S]; rw [h, ByteArray.append_assoc]⟩
theorem S_at (xs : List Int) (i d : Nat) (j : Int) (h0 : 0 ≤ j) (h1 : j < (piece xs i).size) : bt (S xs (i + 1 + d)) ((S xs i).size + j) = bt (piece xs i) j := by
  obtain ⟨r, h⟩ := S_split xs (i + 1) d
  rw [h, bt_append_left _ _ _ (by simp only [S, ByteArray.size_append]; omega) (by omega)]
  simp only [S]
  rw [bt_append_right _ _ _ (by omega)]
  congr 1
  omega
theorem S_le (xs : List Int) (i d : Nat) : (S xs i).size ≤ (S xs (i + d)).size := by
  obtain ⟨r, h⟩ := S_split xs i d
  rw [h, ByteArray.size_append]; omega
theorem u16k (k : Nat) (hk : 20 ≤ k) (s : ByteArray) (i : Int) (hs : s.size ≤ 9223372036854775807 - 16) : octet_U16.f k s i = if 0 ≤ i ∧ i + 2 ≤ s.size then some (bt s i * 256 + bt s (i + 1), i + 2, 0) else some (0, 0, 300) := by
  have h := u16_ s i hs
  split
  · rename_i c; rw [if_pos c] at h; exact at_rounds (octet_U16.mono s i) hk h
  · rename_i c; rw [if_neg c] at h; exact at_rounds (octet_U16.mono s i) hk h
theorem u32k (k : Nat) (hk : 20 ≤ k) (s : ByteArray) (i : Int) (hs : s.size ≤ 9223372036854775807 - 16) : octet_U32.f k s i = if 0 ≤ i ∧ i + 4 ≤ s.size then some (((bt s i * 256 + bt s (i + 1)) * 256 + bt s (i + 2)) * 256 + bt s (i + 3), i + 4, 0) else some (0, 0, 300) := by
  have h := u32_ s i hs
  split
  · rename_i c; rw [if_pos c] at h; exact at_rounds (octet_U32.mono s i) hk h
  · rename_i c; rw [if_neg c] at h; exact at_rounds (octet_U32.mono s i) hk h
theorem reads (xs : List Int) (hx : xs.length ≤ 9223372036854775807) (m : Nat) (hm : m = min xs.length 60) : ∀ (d i k : Nat), i + d = m → 2 * d + 30 ≤ k → wimplelaw3_OctetRows.l1 k xs (S xs m) (S xs i).size i = some true := by
  have hS : (S xs m).size ≤ 240 := by have := S_size xs m; omega
  intro d
  induction d with
  | zero =>
    intro i k hi hk
    obtain rfl : i = m := by omega
    obtain ⟨k, rfl⟩ : ∃ j, k = j + 2 := ⟨k - 2, by omega⟩
    simp only [wimplelaw3_OctetRows.l1]
    have hf : (if (i : Int) < (xs.length : Int) then wimplelaw3_OctetRows.j3 (k + 1) xs (S xs i) (S xs i).size i (decide ((i : Int) < 60)) else wimplelaw3_OctetRows.j3 (k + 1) xs (S xs i) (S xs i).size i false) = wimplelaw3_OctetRows.j3 (k + 1) xs (S xs i) (S xs i).size i false := by
      by_cases h : (i : Int) < (xs.length : Int)
      · rw [if_pos h, decide_eq_false (by omega)]
      · rw [if_neg h]
    rw [hf]
    simp only [wimplelaw3_OctetRows.j3]
    rw [if_neg (by decide), u16k _ (by omega) _ _ (by omega), if_neg (by omega)]
    simp [wimplelaw0_Num.f]
  | succ d ih =>
    intro i k hi hk
    obtain ⟨k, rfl⟩ : ∃ j, k = j + 2 := ⟨k - 2, by omega⟩
    have hp := piece_size xs i
    have hA : ∀ j : Int, 0 ≤ j → j < (piece xs i).size → bt (S xs m) ((S xs i).size + j) = bt (piece xs i) j := by
      intro j h0 h1
      have := S_at xs i d j h0 h1
      rwa [show i + 1 + d = m by omega] at this
    have hL : (S xs i).size + (piece xs i).size ≤ (S xs m).size := by
      have := S_le xs (i + 1) d
      rw [show i + 1 + d = m by omega] at this
      simpa only [S, ByteArray.size_append] using this
    have hn : (S xs (i + 1)).size = (S xs i).size + (piece xs i).size := by simp only [S, ByteArray.size_append]
    have hi2 := ih (i + 1) k (by omega) (by omega)
    rw [hn] at hi2
    simp only [wimplelaw3_OctetRows.l1]
    rw [if_pos (by omega), decide_eq_true (by omega)]
    simp only [wimplelaw3_OctetRows.j3]
    rw [if_pos trivial, and_1]
    by_cases h2 : i % 2 = 0
    · rw [if_pos h2] at hp
      have e0 := hA 0 (by omega) (by omega)
      have e1 := hA 1 (by omega) (by omega)
      rw [hp] at hi2
      rw [if_pos (by omega), u16k _ (by omega) _ _ (by omega), if_pos (by omega)]
      rw [Int.add_zero] at e0
      rw [e0, e1]
      have hq : piece xs i = strOfNums [(rd xs i / 256) % 256, rd xs i % 256] := by unfold piece; rw [if_pos h2]
      rw [hq, bt_nums _ 0 (rd xs i / 256 % 256) rfl (by omega) (by omega), bt_nums _ 1 (rd xs i % 256) rfl (by omega) (by omega)]
      simp only [Option.bind_some, wimplelaw0_Num.f, if_true]
      rw [if_pos (by omega), if_pos (by omega), and_65535, if_pos (by omega), w64 (by omega) (by omega), if_pos rfl, w64 (by omega) (by omega)]
      exact hi2
    · rw [if_neg h2] at hp
      have e0 := hA 0 (by omega) (by omega)
      have e1 := hA 1 (by omega) (by omega)
      have e2 := hA 2 (by omega) (by omega)
      have e3 := hA 3 (by omega) (by omega)
      rw [hp] at hi2
      rw [if_neg (by omega), u32k _ (by omega) _ _ (by omega), if_pos (by omega)]
      rw [Int.add_zero] at e0
      rw [e0, e1, e2, e3]
      have hq : piece xs i = strOfNums [(rd xs i / 16777216) % 256, (rd xs i / 65536) % 256, (rd xs i / 256) % 256, rd xs i % 256] := by unfold piece; rw [if_neg h2]
      rw [hq, bt_nums _ 0 (rd xs i / 16777216 % 256) rfl (by omega) (by omega), bt_nums _ 1 (rd xs i / 65536 % 256) rfl (by omega) (by omega), bt_nums _ 2 (rd xs i / 256 % 256) rfl (by omega) (by omega), bt_nums _ 3 (rd xs i % 256) rfl (by omega) (by omega)]
      simp only [Option.bind_some, wimplelaw0_Num.f, if_true]
      rw [if_pos (by omega), if_pos (by omega), and_4294967295, if_pos (by omega), w64 (by omega) (by omega), if_pos rfl, w64 (by omega) (by omega)]
      exact hi2
theorem writes (xs : List Int) (hx : xs.length ≤ 9223372036854775807) (m : Nat) (hm : m = min xs.length 60) : ∀ (d i k : Nat), i + d = m → 2 * d + 2 * m + 40 ≤ k → wimplelaw3_OctetRows.l0 k xs (S xs i) i = some true := by
  intro d
  induction d with
  | zero =>
    intro i k hi hk
    obtain rfl : i = m := by omega
    obtain ⟨k, rfl⟩ : ∃ j, k = j + 2 := ⟨k - 2, by omega⟩
    simp only [wimplelaw3_OctetRows.l0]
    have hf : (if (i : Int) < (xs.length : Int) then wimplelaw3_OctetRows.j1 (k + 1) xs (S xs i) i (decide ((i : Int) < 60)) else wimplelaw3_OctetRows.j1 (k + 1) xs (S xs i) i false) = wimplelaw3_OctetRows.j1 (k + 1) xs (S xs i) i false := by
      by_cases h : (i : Int) < (xs.length : Int)
      · rw [if_pos h, decide_eq_false (by omega)]
      · rw [if_neg h]
    rw [hf]
    simp only [wimplelaw3_OctetRows.j1]
    rw [if_neg (by decide)]
    exact reads xs hx i hm i 0 k (by omega) (by omega)
  | succ d ih =>
    intro i k hi hk
    obtain ⟨k, rfl⟩ : ∃ j, k = j + 2 := ⟨k - 2, by omega⟩
    have hi2 := ih (i + 1) k (by omega) (by omega)
    have hS := S_size xs i
    simp only [wimplelaw3_OctetRows.l0]
    rw [if_pos (by omega), decide_eq_true (by omega)]
    simp only [wimplelaw3_OctetRows.j1]
    rw [if_pos trivial, and_1]
    by_cases h2 : i % 2 = 0
    · have hq : piece xs i = strOfNums [(rd xs i / 256) % 256, rd xs i % 256] := by unfold piece; rw [if_pos h2]
      have hp := piece_size xs i
      rw [if_pos h2] at hp
      rw [if_pos (by omega), if_pos (by omega), if_pos (by omega), put16_, Option.bind_some, ← hq, if_pos (by omega), w64 (by omega) (by omega)]
      exact hi2
    · have hq : piece xs i = strOfNums [(rd xs i / 16777216) % 256, (rd xs i / 65536) % 256, (rd xs i / 256) % 256, rd xs i % 256] := by unfold piece; rw [if_neg h2]
      have hp := piece_size xs i
      rw [if_neg h2] at hp
      rw [if_neg (by omega), if_pos (by omega), if_pos (by omega), put32_, Option.bind_some, ← hq, if_pos (by omega), w64 (by omega) (by omega)]
      exact hi2
/-- The statement over numbers and lists. -/
theorem OctetRows : wimplelaw3_OctetRows.Pure := by
  intro xs _ hx _
  refine ⟨400, ?_⟩
  unfold wimplelaw3_OctetRows.f
  rw [at_rounds (k := 20) (g := fun k => wimplelaw3_awake.f k) wimplelaw3_awake.mono (by decide) awake_, Option.bind_some, if_pos rfl]
  exact writes xs (by omega) _ rfl _ 0 400 (Nat.zero_add _) (by omega)

end Go.Proofs.Ytccnckppkkhoeaa.Pure
