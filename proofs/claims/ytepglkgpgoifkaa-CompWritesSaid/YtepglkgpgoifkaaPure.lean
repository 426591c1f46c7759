/- Plain numbers, bytes of strings, and from some number of rounds on: no program in sight. -/
import Derived.Test.YtepglkgpgoifkaaWWords
import Derived.Laws.BitsLemmas
namespace Go.Proofs.Ytepglkgpgoifkaa.Pu
open Go.RowKit Go.Proofs.YtepglkgpgoifkaaW.PrintWords
set_option linter.unusedVariables false

/-! ### whole numbers -/
theorem w64 {x : Int} (h0 : -9223372036854775808 ≤ x) (h1 : x ≤ 9223372036854775807) : wrap64 x = x := by unfold wrap64; omega
theorem wraps_i64 (n : Int) (h0 : 0 ≤ n) (h1 : n < 2 ^ 63) : IntKind.i64.wrap n = n := by
  rw [IntKind.wrap_i64]; omega
theorem or_shl (k : Nat) (hk : k ≤ 62) (a b : Int) (ha : 0 ≤ a) (hb : 0 ≤ b) (hb' : b < 2 ^ k) (hs : a * 2 ^ k + b < 2 ^ 63) : Go.bits .or .i64 (a * 2 ^ k) b = a * 2 ^ k + b := by
  have hp : (0 : Int) < 2 ^ k := by exact_mod_cast Nat.two_pow_pos k
  have h1 : 0 ≤ a * 2 ^ k := Int.mul_nonneg ha (by omega)
  have h2 : (2 : Int) ^ k ≤ 2 ^ 62 := by exact_mod_cast Nat.pow_le_pow_right (by decide) hk
  refine bits_join .i64 63 (by decide) wraps_i64 k (a * 2 ^ k) b h1 (Int.mul_emod_left _ _) (by omega) hb (by exact_mod_cast hb') (by omega)
theorem or_shl8 (a b : Int) (ha : 0 ≤ a) (ha' : a ≤ 36028797018963967) (hb : 0 ≤ b) (hb' : b ≤ 255) : Go.bits .or .i64 (a * 256) b = a * 256 + b :=
  bits_join .i64 63 (by decide) wraps_i64 8 (a * 256) b (by omega) (by omega) (by omega) hb (by omega) (by omega)
theorem and_mask (i : Nat) (hi : i ≤ 63) (x : Int) : Go.bits .and .i64 x (2 ^ i - 1) = x % 2 ^ i := by
  have hpos : 0 < 2 ^ i := Nat.two_pow_pos i
  have hle : 2 ^ i ≤ 2 ^ 63 := Nat.pow_le_pow_right (by decide) hi
  have hc : ((2 : Int) ^ i - 1) = ((2 ^ i - 1 : Nat) : Int) := by rw [Int.natCast_sub hpos]; simp
  have hm : (2 ^ i - 1) % 2 ^ 64 = 2 ^ i - 1 := Nat.mod_eq_of_lt (by omega)
  have hx : (BitVec.ofInt 64 x).toNat = (x % 18446744073709551616).toNat := by simp [BitVec.toNat_ofInt]
  have e : ((x % 18446744073709551616).toNat : Int) = x % 18446744073709551616 := by omega
  have hd : (2 : Int) ^ i ∣ 18446744073709551616 := by
    have : (18446744073709551616 : Int) = 2 ^ i * 2 ^ (64 - i) := by rw [← Int.pow_add]; rw [show i + (64 - i) = 64 by omega]; decide
    exact ⟨_, this⟩
  rw [hc]
  show IntKind.i64.wrap (((BitVec.ofInt 64 x &&& BitVec.ofInt 64 ((2 ^ i - 1 : Nat) : Int)).toNat : Nat) : Int) = _
  rw [BitVec.toNat_and, BitVec.ofInt_natCast, BitVec.toNat_ofNat, hm, hx, Nat.and_two_pow_sub_one_eq_mod]
  have e2 : (((x % 18446744073709551616).toNat % 2 ^ i : Nat) : Int) = x % 2 ^ i := by
    rw [Int.natCast_emod, e]; push_cast
    exact Int.emod_emod_of_dvd _ hd
  rw [e2]
  have h2 : (0 : Int) < 2 ^ i := by exact_mod_cast hpos
  have h3 : (2 : Int) ^ i ≤ 2 ^ 63 := by exact_mod_cast hle
  have := Int.emod_nonneg x (Int.ne_of_gt h2)
  have := Int.emod_lt_of_pos x h2
  exact wraps_i64 _ (by assumption) (by omega)
theorem or_nat (a b : Nat) (ha : a < 2 ^ 63) (hb : b < 2 ^ 63) : Go.bits .or .i64 (a : Int) (b : Int) = ((a ||| b : Nat) : Int) := (bits_nat .i64 63 (by decide) wraps_i64 a b ha hb).2
/-- One bit set, in the midst of a number where it was none. -/
theorem or_mid (k : Nat) (hi lo : Nat) (h : lo < 2 ^ k) : (2 ^ (k + 1) * hi + lo) ||| 2 ^ k = 2 ^ (k + 1) * hi + (2 ^ k + lo) := by
  have h1 : lo < 2 ^ (k + 1) := by rw [Nat.pow_succ]; omega
  have h2 : 2 ^ k + lo < 2 ^ (k + 1) := by rw [Nat.pow_succ]; omega
  have h3 := Nat.two_pow_add_eq_or_of_lt h 1
  rw [Nat.mul_one] at h3
  rw [Nat.two_pow_add_eq_or_of_lt h1, Nat.two_pow_add_eq_or_of_lt h2, h3, Nat.or_assoc, Nat.or_comm lo]
theorem and_1 (x : Int) : Go.bits .and .i64 x 1 = x % 2 := and_mask 1 (by decide) x
theorem and_3 (x : Int) : Go.bits .and .i64 x 3 = x % 4 := and_mask 2 (by decide) x
theorem and_7 (x : Int) : Go.bits .and .i64 x 7 = x % 8 := and_mask 3 (by decide) x
theorem and_63 (x : Int) : Go.bits .and .i64 x 63 = x % 64 := and_mask 6 (by decide) x
theorem and_127 (x : Int) : Go.bits .and .i64 x 127 = x % 128 := and_mask 7 (by decide) x
theorem and_255 (x : Int) : Go.bits .and .i64 x 255 = x % 256 := and_mask 8 (by decide) x
theorem and_511 (x : Int) : Go.bits .and .i64 x 511 = x % 512 := and_mask 9 (by decide) x
theorem and_1023 (x : Int) : Go.bits .and .i64 x 1023 = x % 1024 := and_mask 10 (by decide) x
theorem and_4095 (x : Int) : Go.bits .and .i64 x 4095 = x % 4096 := and_mask 12 (by decide) x
theorem and_16383 (x : Int) : Go.bits .and .i64 x 16383 = x % 16384 := and_mask 14 (by decide) x
theorem and_32767 (x : Int) : Go.bits .and .i64 x 32767 = x % 32768 := and_mask 15 (by decide) x
theorem and_65535 (x : Int) : Go.bits .and .i64 x 65535 = x % 65536 := and_mask 16 (by decide) x
theorem and_4294967295 (x : Int) : Go.bits .and .i64 x 4294967295 = x % 4294967296 := and_mask 32 (by decide) x
theorem wraps_u64 (n : Int) (h0 : 0 ≤ n) (h1 : n < 2 ^ 64) : IntKind.u64.wrap n = n := by
  simp [IntKind.wrap, IntKind.bits, IntKind.signed]; omega
theorem u64_wrap (x : Int) : IntKind.u64.wrap x = x % 18446744073709551616 := by simp [IntKind.wrap, IntKind.bits, IntKind.signed]
theorem u64_and255 (x : Int) (h0 : 0 ≤ x) (h1 : x < 18446744073709551616) : Go.bits .and .u64 x 255 = x % 256 :=
  bits_mask .u64 64 (by decide) wraps_u64 8 (by decide) x h0 (by omega)
theorem wf_i64 {x : Int} (h : (Lit.int .i64 x).wf = true) : -9223372036854775808 ≤ x ∧ x ≤ 9223372036854775807 := by
  simp only [Lit.wf, Bool.and_eq_true, decide_eq_true_eq] at h
  exact ⟨h.1, h.2⟩

/-! ### lists -/
theorem getD_lt {α : Type} {l : List α} {d : α} {i : Nat} (h : i < l.length) : l.getD i d = l[i] := by
  rw [List.getD_eq_getElem?_getD, List.getElem?_eq_getElem h]; rfl
theorem take_snoc {α : Type} (l : List α) (d : α) (i : Nat) (h : i < l.length) : l.take (i + 1) = l.take i ++ [l.getD i d] := by
  rw [List.take_succ_eq_append_getElem h, getD_lt h]
theorem drop_cons {α : Type} (l : List α) (d : α) (i : Nat) (h : i < l.length) : l.drop i = l.getD i d :: l.drop (i + 1) := by
  rw [getD_lt h]; exact List.drop_eq_getElem_cons h

/-! ### strings as bytes -/
theorem data_length (s : ByteArray) : s.data.toList.length = s.size := by rw [Array.length_toList]; rfl
theorem ext_data {a b : ByteArray} (h : a.data.toList = b.data.toList) : a = b := ByteArray.ext (Array.ext' h)
theorem bytesOf_inj {a b : ByteArray} (h : bytesOf a = bytesOf b) : a = b := by
  apply ext_data
  unfold bytesOf at h
  refine List.map_inj_right (f := fun b : UInt8 => (b.toNat : Int)) (fun x y e => ?_) |>.1 h
  exact UInt8.toNat_inj.1 (by exact_mod_cast e)
theorem bytesOf_append (a b : ByteArray) : bytesOf (a ++ b) = bytesOf a ++ bytesOf b := by
  unfold bytesOf; rw [ByteArray.data_append, Array.toList_append, List.map_append]
theorem bytesOf_extract (s : ByteArray) (a b : Nat) : bytesOf (s.extract a b) = ((bytesOf s).take b).drop a := by
  unfold bytesOf; rw [ByteArray.data_extract, Array.toList_extract, List.extract_eq_take_drop, List.map_take, List.map_drop]
  rw [List.drop_take]
theorem byte_range {s : ByteArray} {x : Int} (h : x ∈ bytesOf s) : 0 ≤ x ∧ x ≤ 255 := by
  unfold bytesOf at h
  obtain ⟨b, _, rfl⟩ := List.mem_map.1 h
  have := b.toNat_lt
  omega
theorem bytesOf_nums {xs : List Int} (h : ∀ x ∈ xs, 0 ≤ x ∧ x ≤ 255) : bytesOf (strOfNums xs) = xs := by
  unfold bytesOf
  rw [Go.strOfNums_data, List.map_map]
  conv => rhs; rw [← List.map_id xs]
  refine List.map_congr_left fun x hx => ?_
  have := h x hx
  simp only [Function.comp_apply, UInt8.toNat_ofNat', id]
  omega
theorem nums_bytesOf (s : ByteArray) : strOfNums (bytesOf s) = s := bytesOf_inj (bytesOf_nums fun _ h => byte_range h)
theorem nums_append (xs ys : List Int) : strOfNums xs ++ strOfNums ys = strOfNums (xs ++ ys) := by
  apply ext_data; simp [strOfNums, ByteArray.data_append]
theorem bt_bytes (s : ByteArray) (i : Nat) : bt s (i : Int) = (bytesOf s).getD i 0 := by
  unfold bt bytesOf
  rw [List.getD_eq_getElem?_getD, List.getElem?_map]
  split
  · rename_i h
    have h' : i < s.size := by simpa using h
    rw [List.getElem?_eq_getElem (by rw [data_length]; exact h')]
    simp
    rfl
  · rename_i h
    have h' : ¬ i < s.size := by simpa using h
    rw [List.getElem?_eq_none (by rw [data_length]; omega)]
    rfl
theorem toList_data (s : ByteArray) : s.toList = s.data.toList := ByteArray.toList_eq s
theorem toList_inj {a b : ByteArray} (h : a.toList = b.toList) : a = b := ext_data (by rw [← toList_data, ← toList_data]; exact h)

/-! ### from some number of rounds on -/
section
variable {α β : Type} {r : α}
theorem Ev.pos {c : Prop} [Decidable c] {f g : Nat → Option α} (h : c) (k : Ev f r) : Ev (fun n => if c then f n else g n) r := by
  simp only [if_pos h]; exact k
theorem Ev.neg {c : Prop} [Decidable c] {f g : Nat → Option α} (h : ¬ c) (k : Ev g r) : Ev (fun n => if c then f n else g n) r := by
  simp only [if_neg h]; exact k
theorem Ev.some (f : Nat → Option α) (h : ∀ n, f n = some r) : Ev f r := ⟨0, fun n _ => h n⟩
/-- A call that needs no rounds. -/
theorem Ev.call {g : Option β} {f : Nat → β → Option α} {a : β} (h : g = Option.some a) (k : Ev (fun n => f n a) r) : Ev (fun n => g.bind (f n)) r := by
  subst h; exact k
end
end Go.Proofs.Ytepglkgpgoifkaa.Pu
