/- Plain numbers: bits of 64-bit whole numbers, bytes of strings. -/
import Derived.Laws.BitsLemmas
import Derived.Laws.BytesArg
import Derived.RowKit
import Derived.IntWalk
import Derived.PlainAid
import Derived.Below
import Derived.Lib.QuietBelow
namespace Go.Proofs.Ytepglkgpgoifkaa.Base
open Go.RowKit Go.PlainAid

theorem wraps_i64 (n : Int) (h0 : 0 ≤ n) (h1 : n < 2 ^ 63) : IntKind.i64.wrap n = n := by
  rw [IntKind.wrap_i64]; omega

theorem or_shl8 (a b : Int) (ha : 0 ≤ a) (ha' : a ≤ 36028797018963967) (hb : 0 ≤ b) (hb' : b ≤ 255) : Go.bits .or .i64 (a * 256) b = a * 256 + b :=
  bits_join .i64 63 (by decide) wraps_i64 8 (a * 256) b (by omega) (by omega) (by omega) hb (by omega) (by omega)

theorem and_mask (i : Nat) (hi : i ≤ 63) (x : Int) : Go.bits .and .i64 x (2 ^ i - 1) = x % 2 ^ i := by
  have hpos : 0 < 2 ^ i := Nat.two_pow_pos i
  have hle : 2 ^ i ≤ 2 ^ 63 := Nat.pow_le_pow_right (by decide) hi
  have hc : ((2 : Int) ^ i - 1) = ((2 ^ i - 1 : Nat) : Int) := by rw [Int.natCast_sub hpos]; simp
  have hm : (2 ^ i - 1) % 2 ^ 64 = 2 ^ i - 1 := Nat.mod_eq_of_lt (by omega)
  have hx : (BitVec.ofInt 64 x).toNat = (x % 18446744073709551616).toNat := by simp [BitVec.toNat_ofInt]
  have e : ((x % 18446744073709551616).toNat : Int) = x % 18446744073709551616 := by omega
  have hd : (2 : Int) ^ i ∣ 18446744073709551616 := by
    have : (18446744073709551616 : Int) = 2 ^ i * 2 ^ (64 - i) := by rw [← Int.pow_add]; rw [show i + (64 - i) = 64 by omega]; decide
    exact ⟨_, this⟩
  rw [hc]
  show IntKind.i64.wrap (((BitVec.ofInt 64 x &&& BitVec.ofInt 64 ((2 ^ i - 1 : Nat) : Int)).toNat : Nat) : Int) = _
  rw [BitVec.toNat_and, BitVec.ofInt_natCast, BitVec.toNat_ofNat, hm, hx, Nat.and_two_pow_sub_one_eq_mod]
  have e2 : (((x % 18446744073709551616).toNat % 2 ^ i : Nat) : Int) = x % 2 ^ i := by
    rw [Int.natCast_emod, e]; push_cast
    exact Int.emod_emod_of_dvd _ hd
  rw [e2]
  have h2 : (0 : Int) < 2 ^ i := by exact_mod_cast hpos
  have h3 : (2 : Int) ^ i ≤ 2 ^ 63 := by exact_mod_cast hle
  have := Int.emod_nonneg x (Int.ne_of_gt h2)
  have := Int.emod_lt_of_pos x h2
  exact wraps_i64 _ (by assumption) (by omega)

theorem and_65535 (x : Int) : Go.bits .and .i64 x 65535 = x % 65536 := and_mask 16 (by decide) x
theorem and_4294967295 (x : Int) : Go.bits .and .i64 x 4294967295 = x % 4294967296 := and_mask 32 (by decide) x
theorem and_1 (x : Int) : Go.bits .and .i64 x 1 = x % 2 := and_mask 1 (by decide) x

theorem wraps_u64 (n : Int) (h0 : 0 ≤ n) (h1 : n < 2 ^ 64) : IntKind.u64.wrap n = n := IntWalk.u64_in n ⟨h0, by omega⟩
theorem u64_and255 (x : Int) (h0 : 0 ≤ x) (h1 : x < 18446744073709551616) : Go.bits .and .u64 x 255 = x % 256 :=
  bits_mask .u64 64 (by decide) wraps_u64 8 (by decide) x h0 (by omega)
theorem u64_wrap (x : Int) : IntKind.u64.wrap x = x % 18446744073709551616 := by simp [IntKind.wrap, IntKind.bits, IntKind.signed]
theorem w64 {x : Int} (h0 : -9223372036854775808 ≤ x) (h1 : x ≤ 9223372036854775807) : wrap64 x = x := IntWalk.wrap64_in x ⟨h0, h1⟩

/-! ### Strings and their bytes -/
theorem len_data (s : ByteArray) : s.data.toList.length = s.size := by rw [Array.length_toList]; rfl
theorem bt_data (s : ByteArray) (i : Nat) : bt s i = ((s.data.toList.getD i 0).toNat : Int) := by
  unfold bt
  split
  · rename_i h
    have : i < s.data.toList.length := by rw [len_data]; exact h
    rw [List.getD_eq_getElem?_getD, List.getElem?_eq_getElem this]
    rfl
  · rename_i h
    rw [List.getD_eq_getElem?_getD, List.getElem?_eq_none (by rw [len_data]; omega)]
    rfl
theorem bt_append_right (s t : ByteArray) (i : Nat) (h : s.size ≤ i) : bt (s ++ t) i = bt t (i - s.size) := by
  rw [bt_data, bt_data, ByteArray.data_append, Array.toList_append, List.getD_eq_getElem?_getD, List.getD_eq_getElem?_getD, List.getElem?_append_right (by rw [len_data]; omega), len_data]
theorem bt_append_left (s t : ByteArray) (i : Nat) (h : i < s.size) : bt (s ++ t) i = bt s i := by
  rw [bt_data, bt_data, ByteArray.data_append, Array.toList_append, List.getD_eq_getElem?_getD, List.getD_eq_getElem?_getD, List.getElem?_append_left (by rw [len_data]; omega)]
theorem bt_nums (xs : List Int) (i : Nat) (x : Int) (h : xs[i]? = some x) (h0 : 0 ≤ x) (h1 : x < 256) : bt (strOfNums xs) i = x := by
  rw [bt_data, strOfNums_data, List.getD_eq_getElem?_getD, List.getElem?_map, h]
  show ((UInt8.ofNat x.toNat).toNat : Int) = x
  rw [UInt8.toNat_ofNat']
  omega
theorem strOfNums_append (xs ys : List Int) : strOfNums xs ++ strOfNums ys = strOfNums (xs ++ ys) := by
  apply ByteArray.ext
  apply Array.ext'
  simp [strOfNums, ByteArray.data_append]

/-! ### Worlds -/
theorem below_then {B : Nat} {w w1 w2 : World} (h : Below B w w1) (hB : B ≤ w1.heap.size) (k : Below w1.heap.size w1 w2) : Below B w w2 :=
  h.trans ⟨k.os, k.tape, k.output, k.size, fun i hi => k.block i (Nat.lt_of_lt_of_le hi hB)⟩
theorem below_drewN {B : Nat} {w W : World} (h : Below B w W) (n : Nat) : Below B w (W.drewN n) := ⟨h.os, h.tape, h.output, h.size, h.block⟩
theorem below_drew {B : Nat} {w W : World} (h : Below B w W) : Below B w W.drew := ⟨h.os, h.tape, h.output, h.size, h.block⟩
theorem below_alloc {w W : World} (h : Below w.heap.size w W) (o : Obj) : Below w.heap.size w (W.alloc o) := h.alloc h.size o
theorem below_next {w w1 w2 : World} (h : Below w.heap.size w w1) (k : Below w1.heap.size w1 w2) : Below w.heap.size w w2 := below_then h h.size k
/-- A world under a name. -/
theorem world_abs {P : World → Prop} {W : World} (h : ∀ W', W' = W → P W') : P W := h W rfl
/-- What was there reads as before. -/
theorem bcell {w w1 : World} (h : Below w.heap.size w w1) {a : Addr} {v : Value} (hc : w.cell? a = some v) : w1.cell? a = some v := (h.cell (World.block_lt_of_cell? w a hc)).trans hc
end Go.Proofs.Ytepglkgpgoifkaa.Base
