/- The statement's row, over its walk. -/
import Derived.Laws.BitsLemmas
import Derived.Laws.BytesArg
import Derived.RowKit
import Derived.IntWalk
import Derived.PlainAid
import Derived.Below
import Derived.Lib.QuietBelow
import Derived.Test.YtndcjleadggibaaProg
import Derived.WalkKit
import Derived.KernelRfl
import Derived.BigQuiet
import Derived.Deep.QuietTactic
import Derived.WalkLawsBesides
import Derived.Deep.AppendLies
import Derived.Laws.OwnMore
import Derived.OwnWalk
import Derived.Lib.Hide
import Derived.Deep.LoopGhost
import Derived.BigRegion
import Derived.RegionTactic
import Derived.Deep.RegionHeld3
import Derived.Lib.AppendStr
import Derived.Deep.Draws
import Derived.Maps.AppendAt
import Derived.Laws.MakeOwn
import Derived.Deep.OwnRows
import Derived.Tactics
import Derived.Lib.ConvBytes
import Derived.Laws.Slices
import Derived.RowKit3
import Derived.WideLaws
import Derived.Deep.DeepCutAuto
import Derived.Deep.CutBlock
import Derived.Laws.Rows
import Derived.ArgAppend
import Derived.Laws.IdiomCopy
import Derived.OrdersHeld
import Derived.Test.YtndcjleadggibaaRows
import Derived.ProofKit
import Derived.OpenShut
import Derived.ShutString
import Derived.ChangeOld
import Derived.SizedLaws
import Derived.Test.YtndcjleadggibaaSf1
namespace Go.Proofs.Ytndcjleadggibaa.Base
open Go.RowKit Go.PlainAid

theorem wraps_i64 (n : Int) (h0 : 0 ≤ n) (h1 : n < 2 ^ 63) : IntKind.i64.wrap n = n := by
  rw [IntKind.wrap_i64]; omega

theorem or_shl8 (a b : Int) (ha : 0 ≤ a) (ha' : a ≤ 36028797018963967) (hb : 0 ≤ b) (hb' : b ≤ 255) : Go.bits .or .i64 (a * 256) b = a * 256 + b :=
  bits_join .i64 63 (by decide) wraps_i64 8 (a * 256) b (by omega) (by omega) (by omega) hb (by omega) (by omega)

theorem and_mask (i : Nat) (hi : i ≤ 63) (x : Int) : Go.bits .and .i64 x (2 ^ i - 1) = x % 2 ^ i := by
  have hpos : 0 < 2 ^ i := Nat.two_pow_pos i
  have hle : 2 ^ i ≤ 2 ^ 63 := Nat.pow_le_pow_right (by decide) hi
  have hc : ((2 : Int) ^ i - 1) = ((2 ^ i - 1 : Nat) : Int) := by rw [Int.natCast_sub hpos]; simp
  have hm : (2 ^ i - 1) % 2 ^ 64 = 2 ^ i - 1 := Nat.mod_eq_of_lt (by omega)
  have hx : (BitVec.ofInt 64 x).toNat = (x % 18446744073709551616).toNat := by simp [BitVec.toNat_ofInt]
  have e : ((x % 18446744073709551616).toNat : Int) = x % 18446744073709551616 := by omega
  have hd : (2 : Int) ^ i ∣ 18446744073709551616 := by
    have : (18446744073709551616 : Int) = 2 ^ i * 2 ^ (64 - i) := by rw [← Int.pow_add]; rw [show i + (64 - i) = 64 by omega]; decide
    exact ⟨_, this⟩
  rw [hc]
  show IntKind.i64.wrap (((BitVec.ofInt 64 x &&& BitVec.ofInt 64 ((2 ^ i - 1 : Nat) : Int)).toNat : Nat) : Int) = _
  rw [BitVec.toNat_and, BitVec.ofInt_natCast, BitVec.toNat_ofNat, hm, hx, Nat.and_two_pow_sub_one_eq_mod]
  have e2 : (((x % 18446744073709551616).toNat % 2 ^ i : Nat) : Int) = x % 2 ^ i := by
    rw [Int.natCast_emod, e]; push_cast
    exact Int.emod_emod_of_dvd _ hd
  rw [e2]
  have h2 : (0 : Int) < 2 ^ i := by exact_mod_cast hpos
  have h3 : (2 : Int) ^ i ≤ 2 ^ 63 := by exact_mod_cast hle
  have := Int.emod_nonneg x (Int.ne_of_gt h2)
  have := Int.emod_lt_of_pos x h2
  exact wraps_i64 _ (by assumption) (by omega)

theorem w64 {x : Int} (h0 : -9223372036854775808 ≤ x) (h1 : x ≤ 9223372036854775807) : wrap64 x = x := IntWalk.wrap64_in x ⟨h0, h1⟩

/-! ### Strings and their bytes -/
theorem len_data (s : ByteArray) : s.data.toList.length = s.size := by rw [Array.length_toList]; rfl
theorem bt_data (s : ByteArray) (i : Nat) : bt s i = ((s.data.toList.getD i 0).toNat : Int) := by
  unfold bt
  split
  · rename_i h
    have : i < s.data.toList.length := by rw [len_data]; exact h
    rw [List.getD_eq_getElem?_getD, List.getElem?_eq_getElem this]
    rfl
  · rename_i h
    rw [List.getD_eq_getElem?_getD, List.getElem?_eq_none (by rw [len_data]; omega)]
    rfl
theorem bt_append_right (s t : ByteArray) (i : Nat) (h : s.size ≤ i) : bt (s ++ t) i = bt t (i - s.size) := by
  rw [bt_data, bt_data, ByteArray.data_append, Array.toList_append, List.getD_eq_getElem?_getD, List.getD_eq_getElem?_getD, List.getElem?_append_right (by rw [len_data]; omega), len_data]
theorem bt_append_left (s t : ByteArray) (i : Nat) (h : i < s.size) : bt (s ++ t) i = bt s i := by
  rw [bt_data, bt_data, ByteArray.data_append, Array.toList_append, List.getD_eq_getElem?_getD, List.getD_eq_getElem?_getD, List.getElem?_append_left (by rw [len_data]; omega)]
theorem bt_nums (xs : List Int) (i : Nat) (x : Int) (h : xs[i]? = some x) (h0 : 0 ≤ x) (h1 : x < 256) : bt (strOfNums xs) i = x := by
  rw [bt_data, strOfNums_data, List.getD_eq_getElem?_getD, List.getElem?_map, h]
  show ((UInt8.ofNat x.toNat).toNat : Int) = x
  rw [UInt8.toNat_ofNat']
  omega
theorem strOfNums_append (xs ys : List Int) : strOfNums xs ++ strOfNums ys = strOfNums (xs ++ ys) := by
  apply ByteArray.ext
  apply Array.ext'
  simp [strOfNums, ByteArray.data_append]

/-! ### Worlds -/
theorem below_then {B : Nat} {w w1 w2 : World} (h : Below B w w1) (hB : B ≤ w1.heap.size) (k : Below w1.heap.size w1 w2) : Below B w w2 :=
  h.trans ⟨k.os, k.tape, k.output, k.size, fun i hi => k.block i (Nat.lt_of_lt_of_le hi hB)⟩
theorem below_drew {B : Nat} {w W : World} (h : Below B w W) : Below B w W.drew := ⟨h.os, h.tape, h.output, h.size, h.block⟩
theorem below_alloc {w W : World} (h : Below w.heap.size w W) (o : Obj) : Below w.heap.size w (W.alloc o) := h.alloc h.size o
theorem below_next {w w1 w2 : World} (h : Below w.heap.size w w1) (k : Below w1.heap.size w1 w2) : Below w.heap.size w w2 := below_then h h.size k
/-- What was there reads as before. -/
theorem bcell {w w1 : World} (h : Below w.heap.size w w1) {a : Addr} {v : Value} (hc : w.cell? a = some v) : w1.cell? a = some v := (h.cell (World.block_lt_of_cell? w a hc)).trans hc
end Go.Proofs.Ytndcjleadggibaa.Base

namespace Go.Proofs.Ytndcjleadggibaa.Oct
open Go.RowKit Go.PlainAid Go.Proofs.Ytndcjleadggibaa.Base
set_option linter.unusedVariables false

/-- Two bytes as a number; four. -/
def be2 (s : ByteArray) (i : Nat) : Int := bt s i * 256 + bt s (i + 1)
def be4 (s : ByteArray) (i : Nat) : Int := ((bt s i * 256 + bt s (i + 1)) * 256 + bt s (i + 2)) * 256 + bt s (i + 3)
/-- A number's two lowest bytes; its four. -/
def p16 (x : Int) : ByteArray := strOfNums [(x / 256) % 256, x % 256]
def p32 (x : Int) : ByteArray := strOfNums [(x / 16777216) % 256, (x / 65536) % 256, (x / 256) % 256, x % 256]
theorem p16_size (x : Int) : (p16 x).size = 2 := by simp [p16, strOfNums_size]
theorem p32_size (x : Int) : (p32 x).size = 4 := by simp [p32, strOfNums_size]
theorem or_step (a b : Int) (ha : 0 ≤ a) (ha' : a ≤ 36028797018963967) (hb : 0 ≤ b) (hb' : b ≤ 255) : Go.bits .or .i64 (wrap64 (a * 256)) (wrap64 b) = a * 256 + b := by
  rw [w64 (by omega) (by omega), w64 (by omega) (by omega), or_shl8 _ _ ha ha' hb hb']
theorem or_first (b : Int) (hb : 0 ≤ b) (hb' : b ≤ 255) : Go.bits .or .i64 0 (wrap64 b) = b := by
  have := or_shl8 0 b (by omega) (by omega) hb hb'
  rw [w64 (by omega) (by omega)]; simpa using this
theorem or2 (s : ByteArray) (i : Nat) : Go.bits .or .i64 (wrap64 (Go.bits .or .i64 0 (wrap64 (bt s i)) * 256)) (wrap64 (bt s (i + 1))) = be2 s i := by
  have h0 := bt_nonneg s i; have h1 := bt_nonneg s (i + 1); have k0 := bt_le s i; have k1 := bt_le s (i + 1)
  rw [or_first _ h0 k0, or_step _ _ h0 (by omega) h1 k1]; rfl
theorem or4 (s : ByteArray) (i : Nat) : Go.bits .or .i64 (wrap64 (Go.bits .or .i64 (wrap64 (Go.bits .or .i64 (wrap64 (Go.bits .or .i64 0 (wrap64 (bt s i)) * 256)) (wrap64 (bt s (i + 1))) * 256)) (wrap64 (bt s (i + 2))) * 256)) (wrap64 (bt s (i + 3))) = be4 s i := by
  have h0 := bt_nonneg s i; have h1 := bt_nonneg s (i + 1); have k0 := bt_le s i; have k1 := bt_le s (i + 1)
  have h2 := bt_nonneg s (i + 2); have h3 := bt_nonneg s (i + 3); have k2 := bt_le s (i + 2); have k3 := bt_le s (i + 3)
  rw [or2, show be2 s i = bt s i * 256 + bt s (i + 1) from rfl, or_step _ _ (by omega) (by omega) h2 k2, or_step _ _ (by omega) (by omega) h3 k3]; rfl

set_option maxHeartbeats 400000 in
theorem num4 (s : ByteArray) (i : Nat) (w : World) (hs : s.size ≤ 9223372036854775000) (h : i + 4 ≤ s.size) :
    Calls Try.prog 68 #[.string s, .int .i64 i, .int .i64 4] w fun e w' => e = .returned (.tuple #[.int .i64 (be4 s i), .int .i64 (i + 4), .int .i64 0]) ∧ w = w' := by
  have q0 : decide ((i : Int) < 0) = false := by simp
  have hb := get_bt s
  go_enter Try.func68, Try.ntmps68
  go_wp2
  refine wp_loop_rounds 5 ?_
  repeat (rw [rounds_succ]; go_wp2)
  go_ret3
  exact ⟨by rw [or4]; rfl, rfl⟩
/-! ### U16, U32, Put16, Put32, Be -/
set_option maxHeartbeats 400000 in
theorem u32 (s : ByteArray) (i : Nat) (w : World) (hs : s.size ≤ 9223372036854775000) (h : i + 4 ≤ s.size) :
    Calls Try.prog 56 #[.string s, .int .i64 i] w fun e w' => e = .returned (.tuple #[.int .i64 (be4 s i), .int .i64 (i + 4), .int .i64 0]) ∧ w = w' := by
  go_enter Try.func56, Try.ntmps56
  go_wp2_with (go_at_call 68; refine (num4 s i _ hs h).mono ?_; rintro e w' ⟨rfl, rfl⟩)
  go_ret3
  exact ⟨rfl, rfl⟩
set_option maxHeartbeats 400000 in
theorem put16 (x : Int) (w : World) : Calls Try.prog 47 #[.int .i64 x] w fun e w' => e = .returned (.string (p16 x)) ∧ Below w.heap.size w w' := by
  have hcv := run_convert_bytes_arg (P := Try.prog) (w.alloc (.cells #[.int .u8 (x / 256 % 256), .int .u8 (x % 256)] 5)) 54 5 Try.underlying54 Try.underlying5 w.heap.size 0 2 2 [x / 256 % 256, x % 256] rfl
    (fun i hi => by obtain rfl | rfl : i = 0 ∨ i = 1 := by omega
                    · go_simp
                    · go_simp) 9 Try.underlying9
  go_enter Try.func47, Try.ntmps47
  go_wp2
  go_ret
  exact ⟨rfl, below_alloc (Below.refl _ _) _⟩
theorem p16_append (x : Int) : p16 (x / 65536) ++ p16 x = p32 x := by
  unfold p16 p32
  rw [strOfNums_append, show x / 65536 / 256 = x / 16777216 by omega]
  rfl
set_option maxHeartbeats 400000 in
theorem put32 (x : Int) (w : World) : Calls Try.prog 55 #[.int .i64 x] w fun e w' => e = .returned (.string (p32 x)) ∧ Below w.heap.size w w' := by
  have z1 := p16_size (x / 65536)
  have z2 := p16_size x
  go_enter Try.func55, Try.ntmps55
  go_wp2_with fail
  refine (put16 (x / 65536) _).mono ?_
  rintro e w1 ⟨rfl, hb1⟩
  go_wp2_with fail
  refine (put16 x _).mono ?_
  rintro e w2 ⟨rfl, hb2⟩
  go_wp2
  go_ret
  exact ⟨by rw [← p16_append]; rfl, below_next hb1 hb2⟩

/-! ### The place as a whole number -/
theorem u32z (s : ByteArray) (i : Int) (w : World) (hs : s.size ≤ 9223372036854775000) (h0 : 0 ≤ i) (h : i + 4 ≤ s.size) :
    Calls Try.prog 56 #[.string s, .int .i64 i] w fun e w' => e = .returned (.tuple #[.int .i64 (be4 s i.toNat), .int .i64 (i + 4), .int .i64 0]) ∧ w = w' := by
  obtain ⟨k, rfl⟩ := Int.eq_ofNat_of_zero_le h0
  exact u32 s k w hs (by omega)
end Go.Proofs.Ytndcjleadggibaa.Oct

namespace Go.Proofs.Ytndcjleadggibaa.Sl
open Go.RowKit Go.PlainAid Go.Proofs.Ytndcjleadggibaa.Base
set_option linter.unusedVariables false

section
variable {w : World} {base size n : Nat} {e : TypeId} {v : Value} {xs : List Value}
theorem own_base (h : w.ownsRow base e size v n xs) (k : Nat) (hk : v.ownBlock = some k) : base ≤ k := by
  rcases h.2 with ⟨rfl, _⟩ | ⟨g, cap, cur, rfl, hb, _⟩
  · simp [Value.ownBlock] at hk
  · have : g = k := by simpa [Value.ownBlock] using hk
    omega
end

section
variable {P : Program} {ops : Array Oper} {rest : List Oper} {o : Oper} {a : Act} {Q : Exit → Act → World → Prop}
/-- append(v, x), x an element of the cells cs, which lies in the variadic's own block. -/
theorem append_row {w0 W : World} (base : Nat) (hgd : o.guard = none) (s x : Operand) (t e : TypeId) (z : Value) (size bytes : Nat)
    (ho : o.op = .call { callee := .builtin .append, args := #[s, x], argTypes := #[t, t] })
    (ht : P.underlying t = some (.slice e)) (hinfo : (P.info? e).map (fun i => (i.zero, i.size, i.bytes)) = some (some z, size, bytes)) (hz : z.cells.size = size) (hsz : 0 < size)
    {v : Value} {n : Nat} {xs : List Value} (HO : W.ownsRow base e size v n xs) (cs : Array Value) (hs : a.eval s = v) (hx : a.eval x = .slice (some ⟨W.heap.size, 0, none⟩) 1 1)
    (hc : cs.size = size) (h1 : ∀ u ∈ cs.toList, u.oneCell' = true)
    (HB : Below base w0 W) (hbase : base ≤ W.heap.size) (hn : n + 1 ≤ 140737488355328) (hl : (n + 1) * bytes ≤ 140737488355328)
    (h : ∀ v1 w1, w1.ownsRow base e size v1 (n + 1) (xs ++ cs.toList) → Below base w0 w1 → wpList P ops Q rest (a.put o.dst v1) w1) :
    wpList P ops Q (o :: rest) a (W.alloc (.cells cs e)) := by
  obtain ⟨i0, hi, hz0, hz1, hz2⟩ := info_parts hinfo
  refine wpList_append_own (W.alloc (.cells cs e)) hgd s x t ho base e i0 z size bytes ht hi hz0 hz1 hz2 hz hsz v n xs hs (HO.alloc _) ⟨W.heap.size, 0, none⟩ 1 1 cs.toList hx (by simp [hc])
    (World.news_of_block (cs := cs) (t := e) (fr := (0, 0)) (heap_alloc_new W _)) h1 (by simp only [maxLen]; omega) hl (by simp; omega) ?_
  intro v1 w1 hown hg _
  exact h v1 w1 hown ((HB.alloc hbase _).grown hg (by simp; omega) (own_base HO))
end
end Go.Proofs.Ytndcjleadggibaa.Sl

namespace Go.Proofs.Ytndcjleadggibaa.Nm
open Go.RowKit Go.PlainAid Go.Proofs.Ytndcjleadggibaa.Base Go.Proofs.Ytndcjleadggibaa.Oct Go.Proofs.Ytndcjleadggibaa.Sl
set_option linter.unusedVariables false

/-- From a place on: do labels follow up to the last byte, which ends the name? -/
def nameAt (s : ByteArray) (i : Nat) : Bool :=
  if i < s.size then
    if bt s i = 0 then decide (i + 1 = s.size) else if 63 < bt s i then false else nameAt s (i + 1 + (bt s i).toNat)
  else false
termination_by s.size - i
/-- Where the labels begin, from a place on, and the last byte's place. -/
def placesAt (s : ByteArray) (i : Nat) : List Nat :=
  if i < s.size then
    i :: (if bt s i = 0 then [] else if 63 < bt s i then [] else placesAt s (i + 1 + (bt s i).toNat))
  else []
termination_by s.size - i
/-- Is it a name? -/
def nameB (s : ByteArray) : Bool := decide (s.size ≤ 255) && nameAt s 0
def places (s : ByteArray) : List Nat := placesAt s 0
theorem nameAt_end {s : ByteArray} {i : Nat} (h : i < s.size) (h0 : bt s i = 0) : nameAt s i = decide (i + 1 = s.size) := by
  rw [nameAt, if_pos h, if_pos h0]
theorem nameAt_bad {s : ByteArray} {i : Nat} (h : i < s.size) (h0 : 63 < bt s i) : nameAt s i = false := by
  rw [nameAt, if_pos h, if_neg (by omega), if_pos h0]
theorem nameAt_next {s : ByteArray} {i : Nat} (h : i < s.size) (h0 : bt s i ≠ 0) (h1 : bt s i ≤ 63) : nameAt s i = nameAt s (i + 1 + (bt s i).toNat) := by
  rw [nameAt, if_pos h, if_neg h0, if_neg (by omega)]
theorem nameAt_out {s : ByteArray} {i : Nat} (h : s.size ≤ i) : nameAt s i = false := by
  rw [nameAt, if_neg (by omega)]
theorem placesAt_end {s : ByteArray} {i : Nat} (h : i < s.size) (h0 : bt s i = 0) : placesAt s i = [i] := by
  rw [placesAt, if_pos h, if_pos h0]
theorem placesAt_next {s : ByteArray} {i : Nat} (h : i < s.size) (h0 : bt s i ≠ 0) (h1 : bt s i ≤ 63) : placesAt s i = i :: placesAt s (i + 1 + (bt s i).toNat) := by
  rw [placesAt, if_pos h, if_neg h0, if_neg (by omega)]
def pcells (xs : List Nat) : List Value := xs.map fun (k : Nat) => .int .i64 (k : Int)

theorem info_int : (Try.prog.info? 3).map (fun i => (i.zero, i.size, i.bytes)) = some (some (.int .i64 0), 1, 8) := by kernel_rfl

/-- Places: whether it is a name; the places, if it is. -/
def PlacesPost (s : ByteArray) (w : World) (e : Ending) (w' : World) : Prop :=
  ∃ v, e = .returned (.tuple #[v, .bool (nameB s)]) ∧ Below w.heap.size w w' ∧ (nameB s = true → w'.ownsRow w.heap.size 3 1 v (places s).length (pcells (places s)))
theorem placesLong (s : ByteArray) (w : World) (h : 255 < s.size) : Calls Try.prog 69 #[.string s] w (PlacesPost s w) := by
  have q : decide ((255 : Int) < s.size) = true := by simp; omega
  have hn : nameB s = false := by unfold nameB; simp; omega
  have HN := Lib.hid hn
  clear hn
  go_enter Try.func69, Try.ntmps69
  go_wp2
  go_step3
  go_wp2
  rw [Exit.noGoto_ret]
  go_ret2
  exact ⟨_, by rw [HN.out]; rfl, Below.refl _ _, fun h => by rw [HN.out] at h; cases h⟩
/-- What holds at each round's head. -/
structure Rnd (s : ByteArray) (w : World) (i : Nat) (v : Value) (wr : World) : Prop where
  nm : nameAt s i = nameAt s 0
  own : ∃ xs : List Nat, xs ++ placesAt s i = placesAt s 0 ∧ xs.length ≤ i ∧ wr.ownsRow w.heap.size 3 1 v xs.length (pcells xs)
  bel : Below w.heap.size w wr
theorem pcells_snoc (xs : List Nat) (i : Nat) : pcells xs ++ [.int .i64 (i : Int)] = pcells (xs ++ [i]) := by simp [pcells]
theorem Rnd.next {s : ByteArray} {w : World} {i : Nat} {xs : List Nat} {v1 : Value} {w1 : World} (hnm : nameAt s i = nameAt s 0) (hlt : i < s.size) (h0 : bt s i ≠ 0) (h1 : bt s i ≤ 63) (hx : xs ++ placesAt s i = placesAt s 0) (hl : xs.length ≤ i)
    (hown : w1.ownsRow w.heap.size 3 1 v1 (xs.length + 1) (pcells xs ++ [.int .i64 (i : Int)])) (hb : Below w.heap.size w w1) : Rnd s w (i + 1 + (bt s i).toNat) v1 w1 where
  nm := by rw [← nameAt_next hlt h0 h1]; exact hnm
  own := ⟨xs ++ [i], by rw [← hx, placesAt_next hlt h0 h1]; simp, by simp; omega, by rw [← pcells_snoc]; simpa using hown⟩
  bel := hb
theorem placesEnd {s : ByteArray} {w : World} {i : Nat} {xs : List Nat} {v1 : Value} {w1 : World} {b : Bool} (hs : s.size ≤ 255) (hnm : nameAt s i = nameAt s 0) (hlt : i < s.size) (h0 : bt s i = 0) (hx : xs ++ placesAt s i = placesAt s 0)
    (hown : w1.ownsRow w.heap.size 3 1 v1 (xs.length + 1) (pcells xs ++ [.int .i64 (i : Int)])) (hb : Below w.heap.size w w1) (hbb : b = decide (i + 1 = s.size)) : PlacesPost s w (.returned (.tuple #[v1, .bool b])) w1 := by
  have e1 : nameB s = b := by unfold nameB; rw [← hnm, nameAt_end hlt h0, hbb]; simp [hs]
  refine ⟨v1, by rw [e1], hb, fun _ => ?_⟩
  unfold places
  rw [← hx, placesAt_end hlt h0, ← pcells_snoc]
  simpa using hown
theorem placesBad {s : ByteArray} {w : World} {i : Nat} {v1 : Value} {w1 : World} (hnm : nameAt s i = nameAt s 0) (hf : nameAt s i = false) (hb : Below w.heap.size w w1) : PlacesPost s w (.returned (.tuple #[v1, .bool false])) w1 := by
  have e1 : nameB s = false := by unfold nameB; rw [← hnm, hf]; simp
  exact ⟨v1, by rw [e1], hb, fun h => by rw [e1] at h; cases h⟩
set_option maxHeartbeats 2000000 in
theorem placesShort (s : ByteArray) (w : World) (h : s.size ≤ 255) : Calls Try.prog 69 #[.string s] w (PlacesPost s w) := by
  have q : decide ((255 : Int) < s.size) = false := by simp; omega
  go_enter Try.func69, Try.ntmps69
  go_wp2
  go_step3
  go_wp2
  go_step3
  go_wp2
  go_loopg [4, 5, 6] (s.size + 65) (fun k v4 v5 v6 wr => ∃ i : Nat, v5 = .int .i64 i ∧ i + k ≤ s.size + 65 ∧ s.size + 65 ≤ i + k ∧ i ≤ s.size + 64 ∧ Rnd s w i v4 wr)
  case atStart => exact ⟨0, rfl, by omega, by omega, by omega, rfl, ⟨[], rfl, Nat.le_refl _, World.ownsRow_nil _ _ _ _⟩, Below.refl _ _⟩
  case round =>
    obtain ⟨i, rfl, hk1, hk2, hk3, hR⟩ := hrel
    have hnm := Lib.hid hR.nm
    have hbel := hR.bel
    by_cases hlt : i < s.size
    · have q0 : decide ((i : Int) < s.size) = true := by simp; omega
      have qs : decide ((0 : Int) < s.size) = true := by simp; omega
      have hb := get_bt s
      have wb : wrap64 (bt s i) = bt s i := w64 (by have := bt_nonneg s i; omega) (by have := bt_le s i; omega)
      obtain ⟨xs, hxs, hxl, hown⟩ := hR.own
      have HX := Lib.hid hxs
      clear hxs
      have hsz := hbel.size
      by_cases hz : bt s i = 0
      · have q1 : (bt s i == 0) = true := by simp [hz]
        have HZ := Lib.hid hz
        clear hz
        go_wp2_with (at_builtin; refine append_row (w0 := w) w.heap.size rfl _ _ 87 3 (.int .i64 0) 1 8 rfl Try.underlying87 info_int rfl (by decide) hown #[.int .i64 i] rfl rfl rfl ?h1 hbel hsz ?hn ?hl ?_)
        case h1 => rfl
        case hn => omega
        case hl => omega
        intro v1 w1 hown1 hbel1
        go_wp2
        rw [Exit.noGoto_ret]
        go_ret2
        exact placesEnd h hnm.out hlt HZ.out HX.out hown1 hbel1 (by rw [Bool.eq_iff_iff]; simp; omega)
      · have q1 : (bt s i == 0) = false := by simp [hz]
        have HZ := Lib.hid hz
        clear hz
        by_cases h63 : bt s i ≤ 63
        · have q2 : decide (63 < bt s i) = false := by simp; omega
          have H63 := Lib.hid h63
          clear h63
          have ws : wrap64 ((i : Int) + wrap64 (1 + bt s i)) = ((i + 1 + (bt s i).toNat : Nat) : Int) := by
            have := bt_nonneg s i; have := bt_le s i
            rw [w64 (x := 1 + bt s i) (by omega) (by omega), w64 (by omega) (by omega)]; omega
          go_wp2_with (at_builtin; refine append_row (w0 := w) w.heap.size rfl _ _ 87 3 (.int .i64 0) 1 8 rfl Try.underlying87 info_int rfl (by decide) hown #[.int .i64 i] rfl rfl rfl ?h1 hbel hsz ?hn ?hl ?_)
          case h1 => rfl
          case hn => omega
          case hl => omega
          intro v1 w1 hown1 hbel1
          go_wp2
          go_roundg (gk - 1 - (bt s i).toNat)
          case measure => omega
          case rel =>
            have := H63.out; have := bt_nonneg s i
            exact ⟨i + 1 + (bt s i).toNat, congrArg _ ws, by omega, by omega, by omega, Rnd.next hnm.out hlt HZ.out H63.out HX.out hxl hown1 hbel1⟩
        · have q2 : decide (63 < bt s i) = true := by simp; omega
          have H63 := Lib.hid h63
          clear h63
          go_wp2_with (at_builtin; refine append_row (w0 := w) w.heap.size rfl _ _ 87 3 (.int .i64 0) 1 8 rfl Try.underlying87 info_int rfl (by decide) hown #[.int .i64 i] rfl rfl rfl ?h1 hbel hsz ?hn ?hl ?_)
          case h1 => rfl
          case hn => omega
          case hl => omega
          intro v1 w1 hown1 hbel1
          go_wp2
          rw [Exit.noGoto_ret]
          go_ret2
          exact placesBad hnm.out (nameAt_bad hlt (by have := H63.out; omega)) hbel1
    · have q0 : decide ((i : Int) < s.size) = false := by simp; omega
      by_cases hs0 : s.size = 0
      · have qs : decide (0 < s.size) = false := decide_eq_false (by omega)
        have HS := Lib.hid hs0
        clear hs0
        go_wp2
        rw [Exit.noGoto_ret]
        go_ret2
        exact placesBad hnm.out (nameAt_out (by omega)) hbel
      · have qs : decide (0 < s.size) = true := decide_eq_true (by omega)
        have qe : ((i : Int) == (s.size : Int) - 1) = false := by simp; omega
        have HS := Lib.hid hs0
        clear hs0
        go_wp2
        rw [Exit.noGoto_ret]
        go_ret2
        exact placesBad hnm.out (nameAt_out (by omega)) hbel
end Go.Proofs.Ytndcjleadggibaa.Nm

namespace Go.Proofs.Ytndcjleadggibaa.Nm
open Go.RowKit Go.PlainAid Go.Proofs.Ytndcjleadggibaa.Base Go.Proofs.Ytndcjleadggibaa.Oct Go.Proofs.Ytndcjleadggibaa.Sl
set_option linter.unusedVariables false

theorem places_any (s : ByteArray) (w : World) : Calls Try.prog 69 #[.string s] w (PlacesPost s w) := by
  by_cases h : s.size ≤ 255
  · exact placesShort s w h
  · exact placesLong s w (by omega)
set_option maxHeartbeats 400000 in
theorem may (s : ByteArray) (w : World) : Calls Try.prog 57 #[.string s] w fun e w' => e = .returned (.bool (nameB s)) ∧ Below w.heap.size w w' := by
  go_enter Try.func57, Try.ntmps57
  go_wp2_with fail
  refine (places_any s _).mono ?_
  rintro e w' ⟨v, rfl, hb, _⟩
  go_wp2
  go_ret
  exact ⟨rfl, hb⟩
theorem placesLongBad {s : ByteArray} {w : World} {v1 : Value} {w1 : World} (h : ¬ s.size ≤ 255) (hb : Below w.heap.size w w1) : PlacesPost s w (.returned (.tuple #[v1, .bool false])) w1 := by
  have e1 : nameB s = false := by unfold nameB; simp; omega
  exact ⟨v1, by rw [e1], hb, fun h => by rw [e1] at h; cases h⟩
set_option maxHeartbeats 1000000 in
theorem rplacesLong (s : ByteArray) (w : World) (h : ¬ s.size ≤ 255) : Calls Try.prog 66 #[.string s] w (PlacesPost s w) := by
  have q : decide ((s.size : Int) ≤ 255) = false := by simp; omega
  have q0 : decide (0 < s.size) = true := decide_eq_true (by omega)
  have H := Lib.hid h
  clear h
  go_enter Try.func66, Try.ntmps66
  go_wp2
  refine wp_loop_rounds 1 ?_
  rw [rounds_succ]
  go_wp2
  go_ret2
  exact placesLongBad H.out (Below.refl _ _)
set_option maxHeartbeats 2000000 in
theorem rplacesShort (s : ByteArray) (w : World) (h : s.size ≤ 255) : Calls Try.prog 66 #[.string s] w (PlacesPost s w) := by
  have q : decide ((s.size : Int) ≤ 255) = true := by simp; omega
  go_enter Try.func66, Try.ntmps66
  go_wp2
  go_loopg [4, 5, 6] (s.size + 65) (fun k v4 v5 v6 wr => ∃ i : Nat, v5 = .int .i64 i ∧ i + k ≤ s.size + 65 ∧ s.size + 65 ≤ i + k ∧ i ≤ s.size + 64 ∧ Rnd s w i v4 wr)
  case atStart => exact ⟨0, rfl, by omega, by omega, by omega, rfl, ⟨[], rfl, Nat.le_refl _, World.ownsRow_nil _ _ _ _⟩, Below.refl _ _⟩
  case round =>
    obtain ⟨i, rfl, hk1, hk2, hk3, hR⟩ := hrel
    have hnm := Lib.hid hR.nm
    have hbel := hR.bel
    by_cases hlt : i < s.size
    · have q0 : decide ((i : Int) < s.size) = true := by simp; omega
      have hb := get_bt s
      have wb : wrap64 (bt s i) = bt s i := w64 (by have := bt_nonneg s i; omega) (by have := bt_le s i; omega)
      obtain ⟨xs, hxs, hxl, hown⟩ := hR.own
      have HX := Lib.hid hxs
      clear hxs
      have hsz := hbel.size
      by_cases hz : bt s i = 0
      · have q1 : (bt s i == 0) = true := by simp [hz]
        have HZ := Lib.hid hz
        clear hz
        go_wp2_with (at_builtin; refine append_row (w0 := w) w.heap.size rfl _ _ 87 3 (.int .i64 0) 1 8 rfl Try.underlying87 info_int rfl (by decide) hown #[.int .i64 i] rfl rfl rfl ?h1 hbel hsz ?hn ?hl ?_)
        case h1 => rfl
        case hn => omega
        case hl => omega
        intro v1 w1 hown1 hbel1
        go_wp2
        go_ret2
        exact placesEnd h hnm.out hlt HZ.out HX.out hown1 hbel1 (by rw [Bool.eq_iff_iff]; simp; omega)
      · have q1 : (bt s i == 0) = false := by simp [hz]
        have HZ := Lib.hid hz
        clear hz
        by_cases h63 : bt s i ≤ 63
        · have q2 : decide (63 < bt s i) = false := by simp; omega
          have H63 := Lib.hid h63
          clear h63
          have ws : wrap64 ((i : Int) + 1 + bt s i) = ((i + 1 + (bt s i).toNat : Nat) : Int) := by
            have := bt_nonneg s i; have := bt_le s i
            rw [w64 (by omega) (by omega)]; omega
          go_wp2_with (at_builtin; refine append_row (w0 := w) w.heap.size rfl _ _ 87 3 (.int .i64 0) 1 8 rfl Try.underlying87 info_int rfl (by decide) hown #[.int .i64 i] rfl rfl rfl ?h1 hbel hsz ?hn ?hl ?_)
          case h1 => rfl
          case hn => omega
          case hl => omega
          intro v1 w1 hown1 hbel1
          go_wp2
          go_roundg (gk - 1 - (bt s i).toNat)
          case measure => omega
          case rel =>
            have := H63.out; have := bt_nonneg s i
            exact ⟨i + 1 + (bt s i).toNat, congrArg _ ws, by omega, by omega, by omega, Rnd.next hnm.out hlt HZ.out H63.out HX.out hxl hown1 hbel1⟩
        · have q2 : decide (63 < bt s i) = true := by simp; omega
          have H63 := Lib.hid h63
          clear h63
          go_wp2_with (at_builtin; refine append_row (w0 := w) w.heap.size rfl _ _ 87 3 (.int .i64 0) 1 8 rfl Try.underlying87 info_int rfl (by decide) hown #[.int .i64 i] rfl rfl rfl ?h1 hbel hsz ?hn ?hl ?_)
          case h1 => rfl
          case hn => omega
          case hl => omega
          intro v1 w1 hown1 hbel1
          go_wp2
          go_ret2
          exact placesBad hnm.out (nameAt_bad hlt (by have := H63.out; omega)) hbel1
    · have q0 : decide ((i : Int) < s.size) = false := by simp; omega
      go_wp2
      go_ret2
      exact placesBad hnm.out (nameAt_out (by omega)) hbel
theorem rplaces_any (s : ByteArray) (w : World) : Calls Try.prog 66 #[.string s] w (PlacesPost s w) := by
  by_cases h : s.size ≤ 255
  · exact rplacesShort s w h
  · exact rplacesLong s w h
set_option maxHeartbeats 400000 in
theorem rmay (s : ByteArray) (w : World) : Calls Try.prog 44 #[.string s] w fun e w' => e = .returned (.bool (nameB s)) ∧ Below w.heap.size w w' := by
  go_enter Try.func44, Try.ntmps44
  go_wp2_with fail
  refine (rplaces_any s _).mono ?_
  rintro e w' ⟨v, rfl, hb, _⟩
  go_wp2
  go_ret
  exact ⟨rfl, hb⟩

/-! ### Where the name ends that begins at a place -/
def zeroAt (s : ByteArray) (i : Nat) : Option Nat :=
  if i < s.size then
    if bt s i = 0 then some i else zeroAt s (i + 1 + (bt s i).toNat)
  else none
termination_by s.size - i
theorem zeroAt_end {s : ByteArray} {i : Nat} (h : i < s.size) (h0 : bt s i = 0) : zeroAt s i = some i := by rw [zeroAt, if_pos h, if_pos h0]
theorem zeroAt_next {s : ByteArray} {i : Nat} (h : i < s.size) (h0 : bt s i ≠ 0) : zeroAt s i = zeroAt s (i + 1 + (bt s i).toNat) := by rw [zeroAt, if_pos h, if_neg h0]
theorem zeroAt_out {s : ByteArray} {i : Nat} (h : s.size ≤ i) : zeroAt s i = none := by rw [zeroAt, if_neg (by omega)]
theorem zeroAt_ge {s : ByteArray} : ∀ (d i p : Nat), s.size - i ≤ d → zeroAt s i = some p → i ≤ p ∧ p < s.size
  | 0, i, p, hd, h => by rw [zeroAt_out (by omega)] at h; cases h
  | d + 1, i, p, hd, h => by
    by_cases hlt : i < s.size
    · by_cases h0 : bt s i = 0
      · rw [zeroAt_end hlt h0] at h
        cases h
        exact ⟨Nat.le_refl _, hlt⟩
      · rw [zeroAt_next hlt h0] at h
        have := zeroAt_ge d _ p (by omega) h
        omega
    · rw [zeroAt_out (by omega)] at h; cases h
/-- The place behind the name that begins at a place; -1: none. -/
def endN (s : ByteArray) (a : Nat) : Int := match zeroAt s a with
  | some p => if nameB (s.extract a (p + 1)) then (p + 1 : Int) else -1
  | none => -1
theorem endN_of {s : ByteArray} {a i : Nat} (hz : zeroAt s i = zeroAt s a) (h : i < s.size) (h0 : bt s i = 0) : endN s a = if nameB (s.extract a (i + 1)) then (i + 1 : Int) else -1 := by
  unfold endN; rw [← hz, zeroAt_end h h0]
theorem endN_out {s : ByteArray} {a i : Nat} (hz : zeroAt s i = zeroAt s a) (h : s.size ≤ i) : endN s a = -1 := by
  unfold endN; rw [← hz, zeroAt_out h]
theorem nameB_long {s : ByteArray} (h : 255 < s.size) : nameB s = false := by unfold nameB; simp; omega
theorem endN_far {s : ByteArray} {i : Nat} (hz : zeroAt s i = zeroAt s 0) (h : 255 ≤ i) : endN s 0 = -1 := by
  unfold endN
  rw [← hz]
  cases hp : zeroAt s i with
  | none => rfl
  | some p =>
    have := zeroAt_ge _ i p (Nat.le_refl _) hp
    simp only
    rw [nameB_long (by rw [ByteArray.size_extract]; omega)]
    rfl
end Go.Proofs.Ytndcjleadggibaa.Nm

namespace Go.Proofs.Ytndcjleadggibaa.Rd
open Go.RowKit Go.PlainAid Go.Proofs.Ytndcjleadggibaa.Base Go.Proofs.Ytndcjleadggibaa.Oct Go.Proofs.Ytndcjleadggibaa.Sl Go.Proofs.Ytndcjleadggibaa.Nm
set_option linter.unusedVariables false

theorem zeroAt_next1 {s : ByteArray} {i : Nat} {z : Option Nat} (hz : zeroAt s i = z) (h : i < s.size) (h0 : bt s i ≠ 0) : zeroAt s (i + 1 + (bt s i).toNat) = z := by rw [← zeroAt_next h h0]; exact hz
theorem slice_ab (s : ByteArray) (a b : Nat) (h : a ≤ b) (hb : b ≤ s.size) (w : World) : (Instr.slice 9 (.string s) (some (.int .i64 (a : Int))) (some (.int .i64 (b : Int))) none).run Try.prog w = .ok (.string (s.extract a b)) w := by
  have := run_slice_string (P := Try.prog) w 9 s .i64 .i64 (a : Int) (b : Int) Try.underlying9 (by omega) (by omega) (by omega)
  simpa using this
theorem step1 {s : ByteArray} {i : Nat} (hs : s.size ≤ 9223372036854775000) (h : i < s.size) : wrap64 ((i : Int) + wrap64 (1 + bt s i)) = ((i + 1 + (bt s i).toNat : Nat) : Int) := by
  have := bt_nonneg s i; have := bt_le s i
  rw [w64 (x := 1 + bt s i) (by omega) (by omega), w64 (by omega) (by omega)]; omega
set_option maxHeartbeats 1000000 in
theorem ends (s : ByteArray) (w : World) (hs : s.size ≤ 9223372036854775000) : Calls Try.prog 63 #[.string s] w fun e w' => e = .returned (.int .i64 (endN s 0)) ∧ Below w.heap.size w w' := by
  go_enter Try.func63, Try.ntmps63
  go_wp2
  go_loopg [3] (s.size + 256) (fun k v3 wr => ∃ i : Nat, v3 = .int .i64 i ∧ i + k ≤ s.size + 256 ∧ s.size + 256 ≤ i + k ∧ i ≤ s.size + 255 ∧ zeroAt s i = zeroAt s 0 ∧ w = wr)
  case atStart => exact ⟨0, rfl, by omega, by omega, by omega, rfl, rfl⟩
  case round =>
    obtain ⟨i, rfl, hk1, hk2, hk3, hZ, rfl⟩ := hrel
    have HZ := Lib.hid hZ
    clear hZ
    by_cases hlt : i < s.size
    · have q0 : decide ((i : Int) < s.size) = true := by simp; omega
      by_cases h255 : i < 255
      · have q2 : decide ((i : Int) < 255) = true := by simp; omega
        have hb := get_bt s
        have wb : wrap64 (bt s i) = bt s i := w64 (by have := bt_nonneg s i; omega) (by have := bt_le s i; omega)
        have w1 : wrap64 ((i : Int) + 1) = ((i + 1 : Nat) : Int) := by rw [w64 (by omega) (by omega)]; omega
        by_cases hz : bt s i = 0
        · have q1 : (bt s i == 0) = true := by simp [hz]
          have H0 := Lib.hid hz
          clear hz
          cases hm : nameB (s.extract 0 (i + 1)) with
          | true =>
            go_wp2_with fail
            refine (may _ _).mono ?_
            rintro e w2 ⟨rfl, hb2⟩
            rw [hm]
            go_wp2
            go_ret
            exact ⟨by rw [endN_of HZ.out hlt H0.out, hm]; simp, hb2⟩
          | false =>
            go_wp2_with fail
            refine (may _ _).mono ?_
            rintro e w2 ⟨rfl, hb2⟩
            rw [hm]
            go_wp2
            go_ret
            exact ⟨by rw [endN_of HZ.out hlt H0.out, hm]; simp, hb2⟩
        · have q1 : (bt s i == 0) = false := by simp [hz]
          have H0 := Lib.hid hz
          clear hz
          have ws := step1 hs hlt
          go_wp2
          go_roundg (gk - 1 - (bt s i).toNat)
          case measure => omega
          case rel =>
            have := bt_nonneg s i; have := bt_le s i
            exact ⟨i + 1 + (bt s i).toNat, congrArg _ ws, by omega, by omega, by omega, zeroAt_next1 HZ.out hlt H0.out, rfl⟩
      · have q2 : decide ((i : Int) < 255) = false := by simp; omega
        go_wp2
        go_ret
        exact ⟨by rw [endN_far HZ.out (by omega)]; rfl, Below.refl _ _⟩
    · have q0 : decide ((i : Int) < s.size) = false := by simp; omega
      go_wp2
      go_ret
      exact ⟨by rw [endN_out HZ.out (by omega)]; rfl, Below.refl _ _⟩
/-- From a place on: do texts follow up to the end? -/
def textsAt (s : ByteArray) (i : Nat) : Bool :=
  if i < s.size then textsAt s (i + 1 + (bt s i).toNat) else decide (i = s.size)
termination_by s.size - i
theorem textsAt_next {s : ByteArray} {i : Nat} (h : i < s.size) : textsAt s i = textsAt s (i + 1 + (bt s i).toNat) := by rw [textsAt, if_pos h]
theorem textsAt_next1 {s : ByteArray} {i : Nat} {z : Bool} (hz : textsAt s i = z) (h : i < s.size) : textsAt s (i + 1 + (bt s i).toNat) = z := by rw [← textsAt_next h]; exact hz
theorem textsAt_end {s : ByteArray} {i : Nat} (h : ¬ i < s.size) : textsAt s i = decide (i = s.size) := by rw [textsAt, if_neg h]
theorem isEmpty_no {s : ByteArray} (h : ¬ s.size = 0) : s.toList.isEmpty = false := by
  rw [ByteArray.toList_eq]
  cases e : s.data.toList with
  | nil => exact absurd (by rw [← len_data, e]; rfl) h
  | cons a b => rfl
theorem isEmpty_yes {s : ByteArray} (h : s.size = 0) : s.toList.isEmpty = true := by
  rw [ByteArray.toList_eq]
  cases e : s.data.toList with
  | nil => rfl
  | cons a b => exact absurd h (by rw [← len_data, e]; simp)
/-- One or more texts? -/
def textsB (s : ByteArray) : Bool := decide (0 < s.size) && textsAt s 0

set_option maxHeartbeats 1000000 in
theorem texts (s : ByteArray) (w : World) (hs : s.size ≤ 9223372036854775000) : Calls Try.prog 59 #[.string s] w fun e w' => e = .returned (.bool (textsB s)) ∧ w = w' := by
  go_enter Try.func59, Try.ntmps59
  go_wp2
  go_loopg [3] (s.size + 256) (fun k v3 wr => ∃ i : Nat, v3 = .int .i64 i ∧ i + k ≤ s.size + 256 ∧ s.size + 256 ≤ i + k ∧ i ≤ s.size + 255 ∧ textsAt s i = textsAt s 0 ∧ w = wr)
  case atStart => exact ⟨0, rfl, by omega, by omega, by omega, rfl, rfl⟩
  case round =>
    obtain ⟨i, rfl, hk1, hk2, hk3, hZ, rfl⟩ := hrel
    have HZ := Lib.hid hZ
    clear hZ
    by_cases hlt : i < s.size
    · have q0 : decide ((i : Int) < s.size) = true := by simp; omega
      have hb := get_bt s
      have wb : wrap64 (bt s i) = bt s i := w64 (by have := bt_nonneg s i; omega) (by have := bt_le s i; omega)
      have ws := step1 hs hlt
      go_wp2
      go_roundg (gk - 1 - (bt s i).toNat)
      case measure => omega
      case rel =>
        have := bt_nonneg s i; have := bt_le s i
        exact ⟨i + 1 + (bt s i).toNat, congrArg _ ws, by omega, by omega, by omega, textsAt_next1 HZ.out hlt, rfl⟩
    · have q0 : decide ((i : Int) < s.size) = false := by simp; omega
      have e1 : textsB s = (decide (0 < s.size) && decide (i = s.size)) := by unfold textsB; rw [← HZ.out, textsAt_end hlt]
      have E := Lib.hid e1
      clear e1
      by_cases h0 : s.size = 0
      · have q1 : s.toList.isEmpty = true := isEmpty_yes h0
        have e2 : textsB s = false := by rw [E.out]; simp; omega
        go_wp2
        go_ret
        exact ⟨by rw [e2]; rfl, rfl⟩
      · have q1 : s.toList.isEmpty = false := isEmpty_no h0
        by_cases hi : i = s.size
        · have q3 : ((i : Int) == s.size) = true := by simp; omega
          have e2 : textsB s = true := by rw [E.out]; simp; omega
          go_wp2
          go_ret
          exact ⟨by rw [e2]; rfl, rfl⟩
        · have q3 : ((i : Int) == s.size) = false := by simp; omega
          have e2 : textsB s = false := by rw [E.out]; simp; omega
          go_wp2
          go_ret
          exact ⟨by rw [e2]; rfl, rfl⟩

end Go.Proofs.Ytndcjleadggibaa.Rd

namespace Go.Proofs.Ytndcjleadggibaa.Rd
open Go.RowKit Go.PlainAid Go.Proofs.Ytndcjleadggibaa.Base Go.Proofs.Ytndcjleadggibaa.Oct Go.Proofs.Ytndcjleadggibaa.Sl Go.Proofs.Ytndcjleadggibaa.Nm
set_option linter.unusedVariables false

theorem endN_bd {s : ByteArray} {a : Nat} (h : 0 ≤ endN s a) : (a : Int) < endN s a ∧ endN s a ≤ s.size := by
  unfold endN at h ⊢
  cases hz : zeroAt s a with
  | none => rw [hz] at h; simp at h
  | some p =>
    have := zeroAt_ge _ a p (Nat.le_refl _) hz
    rw [hz] at h
    simp only at h ⊢
    split
    · omega
    · rename_i hn; rw [if_neg hn] at h; omega
theorem endN_neg {s : ByteArray} {a : Nat} (h : endN s a < 0) : endN s a = -1 := by
  unfold endN at h ⊢
  cases hz : zeroAt s a with
  | none => rfl
  | some p =>
    rw [hz] at h
    simp only at h ⊢
    split
    · rename_i hn; rw [if_pos hn] at h; omega
    · rfl
theorem bt_extract (s : ByteArray) (a i : Nat) : bt (s.extract a s.size) i = bt s (a + i) := by
  rw [bt_data, bt_data, ByteArray.data_extract, Array.toList_extract]
  congr 1
  congr 1
  simp only [List.getD_eq_getElem?_getD, List.extract_eq_take_drop, List.getElem?_take, List.getElem?_drop]
  by_cases h : i < s.size - a
  · rw [if_pos h]
  · rw [if_neg h, List.getElem?_eq_none (by rw [len_data]; omega)]
theorem zeroAt_shift (s : ByteArray) (a : Nat) (ha : a ≤ s.size) : ∀ (d i : Nat), s.size - (a + i) ≤ d → zeroAt (s.extract a s.size) i = (zeroAt s (a + i)).map (· - a)
  | 0, i, hd => by rw [zeroAt_out (by rw [ByteArray.size_extract]; omega), zeroAt_out (by omega)]; rfl
  | d + 1, i, hd => by
    by_cases hlt : a + i < s.size
    · by_cases h0 : bt s (a + i) = 0
      · rw [zeroAt_end (by rw [ByteArray.size_extract]; omega) (by rw [bt_extract]; exact h0), zeroAt_end hlt h0]
        simp
      · rw [zeroAt_next (by rw [ByteArray.size_extract]; omega) (by rw [bt_extract]; exact h0), zeroAt_next hlt h0, bt_extract, zeroAt_shift s a ha d _ (by omega)]
        rw [show a + (i + 1 + (bt s (a + i)).toNat) = a + i + 1 + (bt s (a + i)).toNat by omega]
    · rw [zeroAt_out (by rw [ByteArray.size_extract]; omega), zeroAt_out (by omega)]; rfl
theorem endN_shift (s : ByteArray) (a : Nat) (ha : a ≤ s.size) : endN (s.extract a s.size) 0 = if endN s a < 0 then -1 else endN s a - a := by
  have e := zeroAt_shift s a ha _ 0 (Nat.le_refl _)
  unfold endN
  rw [e]
  simp only [Nat.add_zero]
  cases hz : zeroAt s a with
  | none => rfl
  | some p =>
    have := zeroAt_ge _ a p (Nat.le_refl _) hz
    simp only [Option.map_some]
    have ex : (s.extract a s.size).extract 0 (p - a + 1) = s.extract a (p + 1) := by
      rw [ByteArray.extract_extract]; congr 1 <;> omega
    rw [ex]
    split
    · rw [if_neg (by omega)]; omega
    · rfl
/-- Two names, and five numbers? -/
def soaB (s : ByteArray) : Bool := decide (0 ≤ endN s 0) && (decide (0 ≤ endN s (endN s 0).toNat) && decide ((s.size : Int) = endN s (endN s 0).toNat + 20))
theorem slice_a (s : ByteArray) (a : Nat) (h : a ≤ s.size) (w : World) : (Instr.slice 9 (.string s) (some (.int .i64 (a : Int))) none none).run Try.prog w = .ok (.string (s.extract a s.size)) w := by
  have hj : 0 ≤ (a : Int) ∧ (a : Int) ≤ (s.size : Int) := by omega
  simp [Instr.slice, Instr.sliceBounds, Instr.sliceBound, asIntOf, run_underlying Try.underlying9, hj]
  try omega
set_option maxHeartbeats 1000000 in
theorem soa (s : ByteArray) (w : World) (hs : s.size ≤ 9223372036854775000) : Calls Try.prog 58 #[.string s] w fun e w' => e = .returned (.bool (soaB s)) ∧ Below w.heap.size w w' := by
  have hB := @endN_bd s 0
  have hN := @endN_neg s 0
  by_cases h : endN s 0 < 0
  · have e1 : soaB s = false := by unfold soaB; simp; omega
    have q : endN s 0 = -1 := hN h
    go_enter Try.func58, Try.ntmps58
    go_wp2_with fail
    refine (ends s _ hs).mono ?_
    rintro e w1 ⟨rfl, hb1⟩
    rw [q]
    go_wp2
    go_ret
    exact ⟨by rw [e1]; rfl, hb1⟩
  · obtain ⟨n, hn⟩ : ∃ n : Nat, endN s 0 = n := ⟨(endN s 0).toNat, by omega⟩
    have hnb := hB (by omega)
    rw [hn] at hnb
    have hle : n ≤ s.size := by omega
    have q1 : decide ((n : Int) < 0) = false := by simp
    have hsh := endN_shift s n hle
    have hB2 := @endN_bd s n
    have hsz : (s.extract n s.size).size ≤ 9223372036854775000 := by rw [ByteArray.size_extract]; omega
    have e1 : soaB s = (decide (0 ≤ endN s n) && decide ((s.size : Int) = endN s n + 20)) := by unfold soaB; rw [hn]; simp
    by_cases h2 : endN s n < 0
    · rw [if_pos h2] at hsh
      have e2 : soaB s = false := by rw [e1]; simp; omega
      go_enter Try.func58, Try.ntmps58
      go_wp2_with fail
      refine (ends s _ hs).mono ?_
      rintro e w1 ⟨rfl, hb1⟩
      rw [hn]
      have hsl := slice_a s n hle w1
      go_wp2_with fail
      refine (ends _ _ hsz).mono ?_
      rintro e w2 ⟨rfl, hb2⟩
      rw [hsh]
      go_wp2
      go_ret
      exact ⟨by rw [e2]; rfl, below_next hb1 hb2⟩
    · obtain ⟨m, hm⟩ : ∃ m : Nat, endN s n = m := ⟨(endN s n).toNat, by omega⟩
      have hmb := hB2 (by omega)
      rw [if_neg h2, hm] at hsh
      rw [hm] at hmb
      obtain ⟨k, hk⟩ : ∃ k : Nat, (m : Int) - n = k := ⟨m - n, by omega⟩
      rw [hk] at hsh
      have q2 : decide ((k : Int) < 0) = false := by simp
      have w1' : wrap64 ((s.size : Int) - n) = (s.size : Int) - n := w64 (by omega) (by omega)
      have w2' : wrap64 ((s.size : Int) - n - k) = (s.size : Int) - n - k := w64 (by omega) (by omega)
      have e2 : soaB s = ((s.size : Int) - n - k == 20) := by rw [e1, hm, Bool.eq_iff_iff]; simp; omega
      have hn' := hn
      clear hmb hB hB2 hN e1 h h2 hm hn hnb hk
      have E2 := Lib.hid e2
      clear e2
      go_enter Try.func58, Try.ntmps58
      go_wp2_with fail
      refine (ends s _ hs).mono ?_
      rintro e w1 ⟨rfl, hb1⟩
      rw [hn']
      have hsl := slice_a s n hle w1
      go_wp2_with fail
      refine (ends _ _ hsz).mono ?_
      rintro e w2 ⟨rfl, hb2⟩
      rw [hsh]
      go_wp2
      go_ret
      exact ⟨by rw [E2.out]; rfl, below_next hb1 hb2⟩
/-- May data be for a type? -/
def mayD (t : Int) (s : ByteArray) : Bool :=
  if t < 1 then false else if 65535 < t then false else if 65535 < s.size then false else
  if t = 1 then decide (s.size = 4) else if t = 28 then decide (s.size = 16) else
  if t = 2 then nameB s else if t = 5 then nameB s else if t = 12 then nameB s else
  if t = 15 then decide (2 ≤ s.size) && nameB (s.extract 2 s.size) else
  if t = 6 then soaB s else if t = 16 then textsB s else true
end Go.Proofs.Ytndcjleadggibaa.Rd

namespace Go.Proofs.Ytndcjleadggibaa.Rd
open Go.RowKit Go.PlainAid Go.Proofs.Ytndcjleadggibaa.Base Go.Proofs.Ytndcjleadggibaa.Oct Go.Proofs.Ytndcjleadggibaa.Sl Go.Proofs.Ytndcjleadggibaa.Nm
set_option linter.unusedVariables false

theorem mayD_body {t : Int} {s : ByteArray} (h1 : ¬ t < 1) (h2 : ¬ 65535 < t) (h3 : ¬ 65535 < s.size) : mayD t s =
    if t = 1 then decide (s.size = 4) else if t = 28 then decide (s.size = 16) else
    if t = 2 then nameB s else if t = 5 then nameB s else if t = 12 then nameB s else
    if t = 15 then decide (2 ≤ s.size) && nameB (s.extract 2 s.size) else
    if t = 6 then soaB s else if t = 16 then textsB s else true := by
  unfold mayD; rw [if_neg h1, if_neg h2, if_neg h3]
theorem nameB_small {s : ByteArray} (h : s.size = 0) : nameB s = false := by
  unfold nameB; rw [nameAt_out (by omega)]; simp

set_option maxRecDepth 100000 in
set_option maxHeartbeats 1000000 in
theorem dmayOut (t : Int) (s : ByteArray) (w : World) (hs : s.size ≤ 9223372036854775000) (h : t < 1 ∨ 65535 < t ∨ 65535 < s.size) : Calls Try.prog 33 #[.int .i64 t, .string s] w fun e w' => e = .returned (.bool (mayD t s)) ∧ Below w.heap.size w w' := by
  have e1 : mayD t s = false := by
    unfold mayD
    by_cases h1 : t < 1
    · rw [if_pos h1]
    · rw [if_neg h1]
      by_cases h2 : 65535 < t
      · rw [if_pos h2]
      · rw [if_neg h2, if_pos (by omega)]
  by_cases h1 : t < 1
  · have q1 : decide (t < 1) = true := decide_eq_true h1
    clear h
    go_enter Try.func33, Try.ntmps33
    go_wp2
    go_ret
    exact ⟨by first | rfl | (rw [e1]; rfl), Below.refl _ _⟩
  · have q1 : decide (t < 1) = false := decide_eq_false h1
    by_cases h2 : 65535 < t
    · have q2 : decide (65535 < t) = true := decide_eq_true h2
      clear h
      go_enter Try.func33, Try.ntmps33
      go_wp2
      go_ret
      exact ⟨by first | rfl | (rw [e1]; rfl), Below.refl _ _⟩
    · have q2 : decide (65535 < t) = false := decide_eq_false h2
      have q3 : decide ((65535 : Int) < s.size) = true := by simp; omega
      clear h
      go_enter Try.func33, Try.ntmps33
      go_wp2
      go_ret
      exact ⟨by first | rfl | (rw [e1]; rfl), Below.refl _ _⟩

set_option maxRecDepth 100000 in
set_option maxHeartbeats 1000000 in
theorem dmay1 (s : ByteArray) (w : World) (hs : s.size ≤ 9223372036854775000) (h3 : ¬ 65535 < s.size) : Calls Try.prog 33 #[.int .i64 1, .string s] w fun e w' => e = .returned (.bool (mayD 1 s)) ∧ Below w.heap.size w w' := by
  have q3 : decide ((65535 : Int) < s.size) = false := by simp; omega
  have hm : mayD 1 s = _ := mayD_body (t := 1) (by decide) (by decide) h3
  have e1 : mayD 1 s = ((s.size : Int) == 4) := by rw [hm, Bool.eq_iff_iff]; simp; omega
  have E := Lib.hid e1
  clear hm e1
  go_enter Try.func33, Try.ntmps33
  go_wp2
  go_ret
  exact ⟨by rw [E.out]; rfl, Below.refl _ _⟩

set_option maxRecDepth 100000 in
set_option maxHeartbeats 1000000 in
theorem dmay28 (s : ByteArray) (w : World) (hs : s.size ≤ 9223372036854775000) (h3 : ¬ 65535 < s.size) : Calls Try.prog 33 #[.int .i64 28, .string s] w fun e w' => e = .returned (.bool (mayD 28 s)) ∧ Below w.heap.size w w' := by
  have q3 : decide ((65535 : Int) < s.size) = false := by simp; omega
  have hm : mayD 28 s = _ := mayD_body (t := 28) (by decide) (by decide) h3
  have e1 : mayD 28 s = ((s.size : Int) == 16) := by rw [hm, Bool.eq_iff_iff]; simp; omega
  have E := Lib.hid e1
  clear hm e1
  go_enter Try.func33, Try.ntmps33
  go_wp2
  go_ret
  exact ⟨by rw [E.out]; rfl, Below.refl _ _⟩

set_option maxRecDepth 100000 in
set_option maxHeartbeats 1000000 in
theorem dmay2 (s : ByteArray) (w : World) (hs : s.size ≤ 9223372036854775000) (h3 : ¬ 65535 < s.size) : Calls Try.prog 33 #[.int .i64 2, .string s] w fun e w' => e = .returned (.bool (mayD 2 s)) ∧ Below w.heap.size w w' := by
  have q3 : decide ((65535 : Int) < s.size) = false := by simp; omega
  have hm : mayD 2 s = _ := mayD_body (t := 2) (by decide) (by decide) h3
  have e1 : mayD 2 s = nameB s := by rw [hm]; simp
  have E := Lib.hid e1
  clear hm e1
  go_enter Try.func33, Try.ntmps33
  go_wp2_with fail
  refine (may s _).mono ?_
  rintro e w1 ⟨rfl, hb1⟩
  go_wp2
  go_ret
  exact ⟨by rw [E.out]; rfl, hb1⟩

set_option maxRecDepth 100000 in
set_option maxHeartbeats 1000000 in
theorem dmay5 (s : ByteArray) (w : World) (hs : s.size ≤ 9223372036854775000) (h3 : ¬ 65535 < s.size) : Calls Try.prog 33 #[.int .i64 5, .string s] w fun e w' => e = .returned (.bool (mayD 5 s)) ∧ Below w.heap.size w w' := by
  have q3 : decide ((65535 : Int) < s.size) = false := by simp; omega
  have hm : mayD 5 s = _ := mayD_body (t := 5) (by decide) (by decide) h3
  have e1 : mayD 5 s = nameB s := by rw [hm]; simp
  have E := Lib.hid e1
  clear hm e1
  go_enter Try.func33, Try.ntmps33
  go_wp2_with fail
  refine (may s _).mono ?_
  rintro e w1 ⟨rfl, hb1⟩
  go_wp2
  go_ret
  exact ⟨by rw [E.out]; rfl, hb1⟩

set_option maxRecDepth 100000 in
set_option maxHeartbeats 1000000 in
theorem dmay12 (s : ByteArray) (w : World) (hs : s.size ≤ 9223372036854775000) (h3 : ¬ 65535 < s.size) : Calls Try.prog 33 #[.int .i64 12, .string s] w fun e w' => e = .returned (.bool (mayD 12 s)) ∧ Below w.heap.size w w' := by
  have q3 : decide ((65535 : Int) < s.size) = false := by simp; omega
  have hm : mayD 12 s = _ := mayD_body (t := 12) (by decide) (by decide) h3
  have e1 : mayD 12 s = nameB s := by rw [hm]; simp
  have E := Lib.hid e1
  clear hm e1
  go_enter Try.func33, Try.ntmps33
  go_wp2_with fail
  refine (may s _).mono ?_
  rintro e w1 ⟨rfl, hb1⟩
  go_wp2
  go_ret
  exact ⟨by rw [E.out]; rfl, hb1⟩

set_option maxRecDepth 100000 in
set_option maxHeartbeats 1000000 in
theorem dmay15 (s : ByteArray) (w : World) (hs : s.size ≤ 9223372036854775000) (h3 : ¬ 65535 < s.size) : Calls Try.prog 33 #[.int .i64 15, .string s] w fun e w' => e = .returned (.bool (mayD 15 s)) ∧ Below w.heap.size w w' := by
  have q3 : decide ((65535 : Int) < s.size) = false := by simp; omega
  have hm : mayD 15 s = _ := mayD_body (t := 15) (by decide) (by decide) h3
  by_cases h2 : 2 ≤ s.size
  · have q4 : decide ((2 : Int) ≤ s.size) = true := by simp; omega
    have e1 : mayD 15 s = nameB (s.extract 2 s.size) := by rw [hm]; simp [h2]
    have E := Lib.hid e1
    have hsl := slice_a s 2 h2 w
    clear hm e1
    go_enter Try.func33, Try.ntmps33
    go_wp2_with fail
    refine (may _ _).mono ?_
    rintro e w1 ⟨rfl, hb1⟩
    go_wp2
    go_ret
    exact ⟨by rw [E.out]; rfl, hb1⟩
  · have q4 : decide ((2 : Int) ≤ s.size) = false := by simp; omega
    have e1 : mayD 15 s = false := by rw [hm]; simp [h2]
    have E := Lib.hid e1
    clear hm e1
    go_enter Try.func33, Try.ntmps33
    go_wp2
    go_ret
    exact ⟨by rw [E.out]; rfl, Below.refl _ _⟩

set_option maxRecDepth 100000 in
set_option maxHeartbeats 1000000 in
theorem dmay6 (s : ByteArray) (w : World) (hs : s.size ≤ 9223372036854775000) (h3 : ¬ 65535 < s.size) : Calls Try.prog 33 #[.int .i64 6, .string s] w fun e w' => e = .returned (.bool (mayD 6 s)) ∧ Below w.heap.size w w' := by
  have q3 : decide ((65535 : Int) < s.size) = false := by simp; omega
  have hm : mayD 6 s = _ := mayD_body (t := 6) (by decide) (by decide) h3
  have e1 : mayD 6 s = soaB s := by rw [hm]; simp
  have E := Lib.hid e1
  clear hm e1
  go_enter Try.func33, Try.ntmps33
  go_wp2_with fail
  refine (soa s _ hs).mono ?_
  rintro e w1 ⟨rfl, hb1⟩
  go_wp2
  go_ret
  exact ⟨by rw [E.out]; rfl, hb1⟩

set_option maxRecDepth 100000 in
set_option maxHeartbeats 1000000 in
theorem dmay16 (s : ByteArray) (w : World) (hs : s.size ≤ 9223372036854775000) (h3 : ¬ 65535 < s.size) : Calls Try.prog 33 #[.int .i64 16, .string s] w fun e w' => e = .returned (.bool (mayD 16 s)) ∧ Below w.heap.size w w' := by
  have q3 : decide ((65535 : Int) < s.size) = false := by simp; omega
  have hm : mayD 16 s = _ := mayD_body (t := 16) (by decide) (by decide) h3
  have e1 : mayD 16 s = textsB s := by rw [hm]; simp
  have E := Lib.hid e1
  clear hm e1
  go_enter Try.func33, Try.ntmps33
  go_wp2_with fail
  refine (texts s _ hs).mono ?_
  rintro e w1 ⟨rfl, rfl⟩
  go_wp2
  go_ret
  exact ⟨by rw [E.out]; rfl, Below.refl _ _⟩

set_option maxRecDepth 100000 in
set_option maxHeartbeats 1000000 in
theorem dmayRest (t : Int) (s : ByteArray) (w : World) (hs : s.size ≤ 9223372036854775000) (h1 : ¬ t < 1) (h2 : ¬ 65535 < t) (h3 : ¬ 65535 < s.size) (k1 : ¬ t = 1) (k28 : ¬ t = 28) (k2 : ¬ t = 2) (k5 : ¬ t = 5) (k12 : ¬ t = 12) (k15 : ¬ t = 15) (k6 : ¬ t = 6) (k16 : ¬ t = 16) : Calls Try.prog 33 #[.int .i64 t, .string s] w fun e w' => e = .returned (.bool (mayD t s)) ∧ Below w.heap.size w w' := by
  have e1 : mayD t s = true := by rw [mayD_body h1 h2 h3]; simp [k1, k28, k2, k5, k12, k15, k6, k16]
  have p1 : decide (t < 1) = false := decide_eq_false h1
  have p2 : decide (65535 < t) = false := decide_eq_false h2
  have p3 : decide ((65535 : Int) < s.size) = false := by simp; omega
  have q1 : (t == 1) = false := by simp [k1]
  have q28 : (t == 28) = false := by simp [k28]
  have q2 : (t == 2) = false := by simp [k2]
  have q5 : (t == 5) = false := by simp [k5]
  have q12 : (t == 12) = false := by simp [k12]
  have q15 : (t == 15) = false := by simp [k15]
  have q6 : (t == 6) = false := by simp [k6]
  have q16 : (t == 16) = false := by simp [k16]
  clear h1 h2 h3 k1 k28 k2 k5 k12 k15 k6 k16
  go_enter Try.func33, Try.ntmps33
  go_wp2
  go_ret
  exact ⟨by first | rfl | (rw [e1]; rfl), Below.refl _ _⟩

theorem dmay (t : Int) (s : ByteArray) (w : World) (hs : s.size ≤ 9223372036854775000) : Calls Try.prog 33 #[.int .i64 t, .string s] w fun e w' => e = .returned (.bool (mayD t s)) ∧ Below w.heap.size w w' := by
  by_cases h1 : t < 1
  · exact dmayOut t s w hs (.inl h1)
  by_cases h2 : 65535 < t
  · exact dmayOut t s w hs (.inr (.inl h2))
  by_cases h3 : 65535 < s.size
  · exact dmayOut t s w hs (.inr (.inr h3))
  by_cases k1 : t = 1
  · subst k1; exact dmay1 s w hs h3
  by_cases k28 : t = 28
  · subst k28; exact dmay28 s w hs h3
  by_cases k2 : t = 2
  · subst k2; exact dmay2 s w hs h3
  by_cases k5 : t = 5
  · subst k5; exact dmay5 s w hs h3
  by_cases k12 : t = 12
  · subst k12; exact dmay12 s w hs h3
  by_cases k15 : t = 15
  · subst k15; exact dmay15 s w hs h3
  by_cases k6 : t = 6
  · subst k6; exact dmay6 s w hs h3
  by_cases k16 : t = 16
  · subst k16; exact dmay16 s w hs h3
  exact dmayRest t s w hs h1 h2 h3 k1 k28 k2 k5 k12 k15 k6 k16

end Go.Proofs.Ytndcjleadggibaa.Rd

namespace Go.Proofs.Ytndcjleadggibaa.Rd
open Go.RowKit Go.PlainAid Go.Proofs.Ytndcjleadggibaa.Base Go.Proofs.Ytndcjleadggibaa.Oct Go.Proofs.Ytndcjleadggibaa.Sl Go.Proofs.Ytndcjleadggibaa.Nm
set_option linter.unusedVariables false

/-- A string and a number. -/
def ans (s : ByteArray) (e : Int) : Ending := .returned (.tuple #[.string s, .int .i64 e])
def emp : ByteArray := ⟨#[]⟩
/-- A number of 32 bits? -/
def wideB (x : Int) : Bool := decide (0 ≤ x) && decide (x ≤ 4294967295)
def aS (x : Int) : ByteArray := if wideB x then p32 x else emp
def aE (x : Int) : Int := if wideB x then 0 else 400
def addrX (s : ByteArray) : Int := if s.size = 4 then be4 s 0 else 0
def addrE (s : ByteArray) : Int := if s.size = 4 then 0 else 400
def mxB (x : Int) (h : ByteArray) : Bool := decide (0 ≤ x) && (decide (x ≤ 65535) && nameB h)
def mxS (x : Int) (h : ByteArray) : ByteArray := if mxB x h then p16 x ++ h else emp
def mxE (x : Int) (h : ByteArray) : Int := if mxB x h then 0 else 400
theorem nameB_size {s : ByteArray} (h : nameB s = true) : s.size ≤ 255 := by unfold nameB at h; simp at h; exact h.1
def hostB (t : Int) (s : ByteArray) : Bool := mayD t s && decide (t = 2 ∨ t = 5 ∨ t = 12 ∨ t = 15)
def hostS (t : Int) (s : ByteArray) : ByteArray := if hostB t s then (if t = 15 then s.extract 2 s.size else s) else emp
def hostE (t : Int) (s : ByteArray) : Int := if hostB t s then 0 else 400

set_option maxRecDepth 100000 in
set_option maxHeartbeats 1000000 in
theorem ac (x : Int) (w : World) : Calls Try.prog 25 #[.int .i64 x] w fun e w' => e = ans (aS x) (aE x) ∧ Below w.heap.size w w' := by
  unfold ans
  by_cases h0 : x < 0
  · have q0 : decide (x < 0) = true := decide_eq_true h0
    have e1 : wideB x = false := by unfold wideB; simp; omega
    have e2 : aS x = emp := by unfold aS; rw [e1]; rfl
    have e3 : aE x = 400 := by unfold aE; rw [e1]; rfl
    rw [e2, e3]
    clear h0 e1 e2 e3
    go_enter Try.func25, Try.ntmps25
    go_wp2
    go_ret2
    exact ⟨rfl, Below.refl _ _⟩
  · have q0 : decide (x < 0) = false := decide_eq_false h0
    by_cases h1 : 4294967295 < x
    · have q1 : decide (4294967295 < x) = true := decide_eq_true h1
      have e1 : wideB x = false := by unfold wideB; simp; omega
      have e2 : aS x = emp := by unfold aS; rw [e1]; rfl
      have e3 : aE x = 400 := by unfold aE; rw [e1]; rfl
      rw [e2, e3]
      clear h0 h1 e1 e2 e3
      go_enter Try.func25, Try.ntmps25
      go_wp2
      go_ret2
      exact ⟨rfl, Below.refl _ _⟩
    · have q1 : decide (4294967295 < x) = false := decide_eq_false h1
      have e1 : wideB x = true := by unfold wideB; simp; omega
      have e2 : aS x = p32 x := by unfold aS; rw [e1]; rfl
      have e3 : aE x = 0 := by unfold aE; rw [e1]; rfl
      rw [e2, e3]
      clear h0 h1 e1 e2 e3
      go_enter Try.func25, Try.ntmps25
      go_wp2_with fail
      refine (put32 x _).mono ?_
      rintro e w1 ⟨rfl, hb1⟩
      go_wp2
      go_ret2
      exact ⟨rfl, hb1⟩

set_option maxRecDepth 100000 in
set_option maxHeartbeats 1000000 in
theorem addrc (s : ByteArray) (w : World) (hs : s.size ≤ 9223372036854775000) : Calls Try.prog 27 #[.string s] w fun e w' => e = .returned (.tuple #[.int .i64 (addrX s), .int .i64 (addrE s)]) ∧ Below w.heap.size w w' := by
  unfold addrX addrE
  by_cases h : s.size = 4
  · have q0 : ((s.size : Int) != 4) = false := by simp; omega
    rw [if_pos h, if_pos h]
    have H := Lib.hid h
    clear h
    go_enter Try.func27, Try.ntmps27
    go_wp2_with fail
    refine (u32z s 0 _ hs (by omega) (by have := H.out; omega)).mono ?_
    rintro e w1 ⟨rfl, rfl⟩
    go_wp2
    go_ret2
    exact ⟨rfl, Below.refl _ _⟩
  · have q0 : ((s.size : Int) != 4) = true := by simp; omega
    rw [if_neg h, if_neg h]
    clear h
    go_enter Try.func27, Try.ntmps27
    go_wp2
    go_ret2
    exact ⟨rfl, Below.refl _ _⟩

set_option maxRecDepth 100000 in
set_option maxHeartbeats 1000000 in
theorem mxc (x : Int) (s : ByteArray) (w : World) : Calls Try.prog 29 #[.int .i64 x, .string s] w fun e w' => e = ans (mxS x s) (mxE x s) ∧ Below w.heap.size w w' := by
  unfold ans
  by_cases h0 : x < 0
  · have q0 : decide (x < 0) = true := decide_eq_true h0
    have e1 : mxB x s = false := by unfold mxB; simp; omega
    have e2 : mxS x s = emp := by unfold mxS; rw [e1]; rfl
    have e3 : mxE x s = 400 := by unfold mxE; rw [e1]; rfl
    rw [e2, e3]
    clear h0 e1 e2 e3
    go_enter Try.func29, Try.ntmps29
    go_wp2
    go_ret2
    exact ⟨rfl, Below.refl _ _⟩
  · have q0 : decide (x < 0) = false := decide_eq_false h0
    by_cases h1 : 65535 < x
    · have q1 : decide (65535 < x) = true := decide_eq_true h1
      have e1 : mxB x s = false := by unfold mxB; simp; omega
      have e2 : mxS x s = emp := by unfold mxS; rw [e1]; rfl
      have e3 : mxE x s = 400 := by unfold mxE; rw [e1]; rfl
      rw [e2, e3]
      clear h0 h1 e1 e2 e3
      go_enter Try.func29, Try.ntmps29
      go_wp2
      go_ret2
      exact ⟨rfl, Below.refl _ _⟩
    · have q1 : decide (65535 < x) = false := decide_eq_false h1
      have e1 : mxB x s = nameB s := by unfold mxB; rw [decide_eq_true (show 0 ≤ x by omega), decide_eq_true (show x ≤ 65535 by omega)]; rfl
      unfold mxS mxE
      rw [e1]
      clear h0 h1 e1
      cases h : nameB s with
      | true =>
        have hpl : ¬ 9223372036854775807 < (p16 x).size + s.size := by rw [p16_size]; have := nameB_size h; omega
        go_enter Try.func29, Try.ntmps29
        go_wp2_with fail
        refine (may s _).mono ?_
        rintro e w1 ⟨rfl, hb1⟩
        rw [h]
        go_wp2_with fail
        refine (put16 x _).mono ?_
        rintro e w2 ⟨rfl, hb2⟩
        go_wp2
        go_ret2
        exact ⟨rfl, below_next hb1 hb2⟩
      | false =>
        go_enter Try.func29, Try.ntmps29
        go_wp2_with fail
        refine (may s _).mono ?_
        rintro e w1 ⟨rfl, hb1⟩
        rw [h]
        go_wp2
        go_ret2
        exact ⟨rfl, hb1⟩

theorem may15 {s : ByteArray} (h : mayD 15 s = true) : 2 ≤ s.size := by
  by_cases h3 : 65535 < s.size
  · omega
  · rw [mayD_body (by decide) (by decide) h3] at h
    simp at h
    exact h.1

set_option maxRecDepth 100000 in
set_option maxHeartbeats 1000000 in
theorem hostc2 (s : ByteArray) (w : World) (hs : s.size ≤ 9223372036854775000) : Calls Try.prog 31 #[.int .i64 2, .string s] w fun e w' => e = ans (hostS 2 s) (hostE 2 s) ∧ Below w.heap.size w w' := by
  unfold ans hostS hostE
  have e1 : hostB 2 s = mayD 2 s := by unfold hostB; simp
  rw [e1]
  clear e1
  cases h : mayD 2 s with
  | true =>
    go_enter Try.func31, Try.ntmps31
    go_wp2_with fail
    refine (dmay 2 s _ hs).mono ?_
    rintro e w1 ⟨rfl, hb1⟩
    rw [h]
    go_wp2
    go_ret2
    exact ⟨rfl, hb1⟩
  | false =>
    go_enter Try.func31, Try.ntmps31
    go_wp2_with fail
    refine (dmay 2 s _ hs).mono ?_
    rintro e w1 ⟨rfl, hb1⟩
    rw [h]
    go_wp2
    go_ret2
    exact ⟨rfl, hb1⟩

set_option maxRecDepth 100000 in
set_option maxHeartbeats 1000000 in
theorem hostc5 (s : ByteArray) (w : World) (hs : s.size ≤ 9223372036854775000) : Calls Try.prog 31 #[.int .i64 5, .string s] w fun e w' => e = ans (hostS 5 s) (hostE 5 s) ∧ Below w.heap.size w w' := by
  unfold ans hostS hostE
  have e1 : hostB 5 s = mayD 5 s := by unfold hostB; simp
  rw [e1]
  clear e1
  cases h : mayD 5 s with
  | true =>
    go_enter Try.func31, Try.ntmps31
    go_wp2_with fail
    refine (dmay 5 s _ hs).mono ?_
    rintro e w1 ⟨rfl, hb1⟩
    rw [h]
    go_wp2
    go_ret2
    exact ⟨rfl, hb1⟩
  | false =>
    go_enter Try.func31, Try.ntmps31
    go_wp2_with fail
    refine (dmay 5 s _ hs).mono ?_
    rintro e w1 ⟨rfl, hb1⟩
    rw [h]
    go_wp2
    go_ret2
    exact ⟨rfl, hb1⟩

set_option maxRecDepth 100000 in
set_option maxHeartbeats 1000000 in
theorem hostc12 (s : ByteArray) (w : World) (hs : s.size ≤ 9223372036854775000) : Calls Try.prog 31 #[.int .i64 12, .string s] w fun e w' => e = ans (hostS 12 s) (hostE 12 s) ∧ Below w.heap.size w w' := by
  unfold ans hostS hostE
  have e1 : hostB 12 s = mayD 12 s := by unfold hostB; simp
  rw [e1]
  clear e1
  cases h : mayD 12 s with
  | true =>
    go_enter Try.func31, Try.ntmps31
    go_wp2_with fail
    refine (dmay 12 s _ hs).mono ?_
    rintro e w1 ⟨rfl, hb1⟩
    rw [h]
    go_wp2
    go_ret2
    exact ⟨rfl, hb1⟩
  | false =>
    go_enter Try.func31, Try.ntmps31
    go_wp2_with fail
    refine (dmay 12 s _ hs).mono ?_
    rintro e w1 ⟨rfl, hb1⟩
    rw [h]
    go_wp2
    go_ret2
    exact ⟨rfl, hb1⟩

set_option maxRecDepth 100000 in
set_option maxHeartbeats 1000000 in
theorem hostc15 (s : ByteArray) (w : World) (hs : s.size ≤ 9223372036854775000) : Calls Try.prog 31 #[.int .i64 15, .string s] w fun e w' => e = ans (hostS 15 s) (hostE 15 s) ∧ Below w.heap.size w w' := by
  unfold ans hostS hostE
  have e1 : hostB 15 s = mayD 15 s := by unfold hostB; simp
  rw [e1]
  clear e1
  cases h : mayD 15 s with
  | true =>
    have h2 : 2 ≤ s.size := may15 h
    go_enter Try.func31, Try.ntmps31
    go_wp2_with fail
    refine (dmay 15 s _ hs).mono ?_
    rintro e w1 ⟨rfl, hb1⟩
    rw [h]
    go_wp2
    go_ret2
    exact ⟨rfl, hb1⟩
  | false =>
    go_enter Try.func31, Try.ntmps31
    go_wp2_with fail
    refine (dmay 15 s _ hs).mono ?_
    rintro e w1 ⟨rfl, hb1⟩
    rw [h]
    go_wp2
    go_ret2
    exact ⟨rfl, hb1⟩

set_option maxRecDepth 100000 in
set_option maxHeartbeats 1000000 in
theorem hostcRest (t : Int) (s : ByteArray) (w : World) (hs : s.size ≤ 9223372036854775000) (k2 : ¬ t = 2) (k5 : ¬ t = 5) (k12 : ¬ t = 12) (k15 : ¬ t = 15) : Calls Try.prog 31 #[.int .i64 t, .string s] w fun e w' => e = ans (hostS t s) (hostE t s) ∧ Below w.heap.size w w' := by
  have e1 : hostB t s = false := by unfold hostB; simp [k2, k5, k12, k15]
  unfold ans hostS hostE
  rw [e1]
  have q2 : (t == 2) = false := by simp [k2]
  have q5 : (t == 5) = false := by simp [k5]
  have q12 : (t == 12) = false := by simp [k12]
  have q15 : (t == 15) = false := by simp [k15]
  clear k2 k5 k12 k15 e1
  cases h : mayD t s with
  | true =>
    go_enter Try.func31, Try.ntmps31
    go_wp2_with fail
    refine (dmay t s _ hs).mono ?_
    rintro e w1 ⟨rfl, hb1⟩
    rw [h]
    go_wp2
    go_ret2
    exact ⟨rfl, hb1⟩
  | false =>
    go_enter Try.func31, Try.ntmps31
    go_wp2_with fail
    refine (dmay t s _ hs).mono ?_
    rintro e w1 ⟨rfl, hb1⟩
    rw [h]
    go_wp2
    go_ret2
    exact ⟨rfl, hb1⟩

theorem hostc (t : Int) (s : ByteArray) (w : World) (hs : s.size ≤ 9223372036854775000) : Calls Try.prog 31 #[.int .i64 t, .string s] w fun e w' => e = ans (hostS t s) (hostE t s) ∧ Below w.heap.size w w' := by
  by_cases k2 : t = 2
  · subst k2; exact hostc2 s w hs
  by_cases k5 : t = 5
  · subst k5; exact hostc5 s w hs
  by_cases k12 : t = 12
  · subst k12; exact hostc12 s w hs
  by_cases k15 : t = 15
  · subst k15; exact hostc15 s w hs
  exact hostcRest t s w hs k2 k5 k12 k15

end Go.Proofs.Ytndcjleadggibaa.Rd

namespace Go.Proofs.Ytndcjleadggibaa.Rd
open Go.RowKit Go.PlainAid Go.Proofs.Ytndcjleadggibaa.Base Go.Proofs.Ytndcjleadggibaa.Oct Go.Proofs.Ytndcjleadggibaa.Sl Go.Proofs.Ytndcjleadggibaa.Nm
set_option linter.unusedVariables false

/-- A place of a block. -/
def plc (a : Nat) (k : Nat) : Value := .pointer (some ⟨a, k, none⟩)
set_option maxHeartbeats 1000000 in
theorem words (b : Nat) (w : World) : Calls Try.prog 62 #[plc b 0] w fun e w' => e = .returned (.agg #[plc b 2, plc b 3, plc b 4, plc b 5, plc b 6]) ∧ Below w.heap.size w w' := by
  unfold plc
  go_enter Try.func62, Try.ntmps62
  go_wp2
  go_region
  go_wp2
  exact bodyPost_ret (v := .agg #[plc b 2, plc b 3, plc b 4, plc b 5, plc b 6]) (by simp [results, Try.results62, go_sem, plc]) rfl ⟨rfl, below_drew (below_alloc (Below.refl _ _) _)⟩

/-- An SOA's parts. -/
structure Soa where
  host : ByteArray
  mail : ByteArray
  s0 : Int
  s1 : Int
  s2 : Int
  s3 : Int
  s4 : Int
def Soa.val (x : Soa) : Value := .agg #[.string x.host, .string x.mail, .int .i64 x.s0, .int .i64 x.s1, .int .i64 x.s2, .int .i64 x.s3, .int .i64 x.s4]
def Soa.ok (x : Soa) : Bool := nameB x.host && (nameB x.mail && (wideB x.s0 && (wideB x.s1 && (wideB x.s2 && (wideB x.s3 && wideB x.s4)))))
def Soa.out (x : Soa) : ByteArray := x.host ++ x.mail ++ p32 x.s0 ++ p32 x.s1 ++ p32 x.s2 ++ p32 x.s3 ++ p32 x.s4
def Soa.S (x : Soa) : ByteArray := if x.ok then x.out else emp
def Soa.E (x : Soa) : Int := if x.ok then 0 else 400
end Go.Proofs.Ytndcjleadggibaa.Rd

namespace Go.Proofs.Ytndcjleadggibaa.Rd
open Go.RowKit Go.PlainAid Go.Proofs.Ytndcjleadggibaa.Base Go.Proofs.Ytndcjleadggibaa.Oct Go.Proofs.Ytndcjleadggibaa.Sl Go.Proofs.Ytndcjleadggibaa.Nm
set_option linter.unusedVariables false

theorem wideB_iff {x : Int} : wideB x = true ↔ 0 ≤ x ∧ x ≤ 4294967295 := by unfold wideB; simp
theorem idx0 (a b c d e : Option Addr) (w : World) : (Instr.index 100 (.agg #[.pointer a, .pointer b, .pointer c, .pointer d, .pointer e]) (.int .i64 0)).run Try.prog w = .ok (.pointer a) w := by
  simp [Instr.index, run_underlying Try.underlying100, asIntOf, go_sem]
theorem idx1 (a b c d e : Option Addr) (w : World) : (Instr.index 100 (.agg #[.pointer a, .pointer b, .pointer c, .pointer d, .pointer e]) (.int .i64 1)).run Try.prog w = .ok (.pointer b) w := by
  simp [Instr.index, run_underlying Try.underlying100, asIntOf, go_sem]
theorem idx2 (a b c d e : Option Addr) (w : World) : (Instr.index 100 (.agg #[.pointer a, .pointer b, .pointer c, .pointer d, .pointer e]) (.int .i64 2)).run Try.prog w = .ok (.pointer c) w := by
  simp [Instr.index, run_underlying Try.underlying100, asIntOf, go_sem]
theorem idx3 (a b c d e : Option Addr) (w : World) : (Instr.index 100 (.agg #[.pointer a, .pointer b, .pointer c, .pointer d, .pointer e]) (.int .i64 3)).run Try.prog w = .ok (.pointer d) w := by
  simp [Instr.index, run_underlying Try.underlying100, asIntOf, go_sem]
theorem idx4 (a b c d e : Option Addr) (w : World) : (Instr.index 100 (.agg #[.pointer a, .pointer b, .pointer c, .pointer d, .pointer e]) (.int .i64 4)).run Try.prog w = .ok (.pointer e) w := by
  simp [Instr.index, run_underlying Try.underlying100, asIntOf, go_sem]

set_option maxRecDepth 100000 in
set_option maxHeartbeats 2000000 in
theorem soaYes (x : Soa) (w : World) (hn : nameB x.host = true) (hm : nameB x.mail = true) (g0 : wideB x.s0 = true) (g1 : wideB x.s1 = true) (g2 : wideB x.s2 = true) (g3 : wideB x.s3 = true) (g4 : wideB x.s4 = true) : Calls Try.prog 35 #[x.val] w fun e w' => e = ans x.S x.E ∧ Below w.heap.size w w' := by
  have e1 : x.ok = true := by unfold Soa.ok; rw [hn, hm, g0, g1, g2, g3, g4]; rfl
  have e2 : x.S = x.out := by unfold Soa.S; rw [e1]; rfl
  have e3 : x.E = 0 := by unfold Soa.E; rw [e1]; rfl
  unfold ans
  rw [e2, e3]
  have a0 : decide (x.s0 < 0) = false := decide_eq_false (by have := wideB_iff.1 g0; omega)
  have b0 : decide (4294967295 < x.s0) = false := decide_eq_false (by have := wideB_iff.1 g0; omega)
  have a1 : decide (x.s1 < 0) = false := decide_eq_false (by have := wideB_iff.1 g1; omega)
  have b1 : decide (4294967295 < x.s1) = false := decide_eq_false (by have := wideB_iff.1 g1; omega)
  have a2 : decide (x.s2 < 0) = false := decide_eq_false (by have := wideB_iff.1 g2; omega)
  have b2 : decide (4294967295 < x.s2) = false := decide_eq_false (by have := wideB_iff.1 g2; omega)
  have a3 : decide (x.s3 < 0) = false := decide_eq_false (by have := wideB_iff.1 g3; omega)
  have b3 : decide (4294967295 < x.s3) = false := decide_eq_false (by have := wideB_iff.1 g3; omega)
  have a4 : decide (x.s4 < 0) = false := decide_eq_false (by have := wideB_iff.1 g4; omega)
  have b4 : decide (4294967295 < x.s4) = false := decide_eq_false (by have := wideB_iff.1 g4; omega)
  have hz := nameB_size hn
  have hy := nameB_size hm
  have l0 : ¬ 9223372036854775807 < (x.host).size + x.mail.size := by (try simp only [ByteArray.size_append, p32_size]); omega
  have l1 : ¬ 9223372036854775807 < (x.host ++ x.mail).size + (p32 x.s0).size := by (try simp only [ByteArray.size_append, p32_size]); omega
  have l2 : ¬ 9223372036854775807 < (x.host ++ x.mail ++ (p32 x.s0)).size + (p32 x.s1).size := by (try simp only [ByteArray.size_append, p32_size]); omega
  have l3 : ¬ 9223372036854775807 < (x.host ++ x.mail ++ (p32 x.s0) ++ (p32 x.s1)).size + (p32 x.s2).size := by (try simp only [ByteArray.size_append, p32_size]); omega
  have l4 : ¬ 9223372036854775807 < (x.host ++ x.mail ++ (p32 x.s0) ++ (p32 x.s1) ++ (p32 x.s2)).size + (p32 x.s3).size := by (try simp only [ByteArray.size_append, p32_size]); omega
  have l5 : ¬ 9223372036854775807 < (x.host ++ x.mail ++ (p32 x.s0) ++ (p32 x.s1) ++ (p32 x.s2) ++ (p32 x.s3)).size + (p32 x.s4).size := by (try simp only [ByteArray.size_append, p32_size]); omega
  clear g0 g1 g2 g3 g4 e1 e2 e3 hz hy
  unfold Soa.val
  go_enter Try.func35, Try.ntmps35
  go_wp2_with fail
  refine (may x.host _).mono ?_
  rintro e w1 ⟨rfl, hb1⟩
  rw [hn]
  have c0 : w1.cell? ⟨w.heap.size, 0, none⟩ = some (.string x.host) := bcell hb1 (by go_simp)
  have c1 : w1.cell? ⟨w.heap.size, 1, none⟩ = some (.string x.mail) := bcell hb1 (by go_simp)
  have c2 : w1.cell? ⟨w.heap.size, 2, none⟩ = some (.int .i64 x.s0) := bcell hb1 (by go_simp)
  have c3 : w1.cell? ⟨w.heap.size, 3, none⟩ = some (.int .i64 x.s1) := bcell hb1 (by go_simp)
  have c4 : w1.cell? ⟨w.heap.size, 4, none⟩ = some (.int .i64 x.s2) := bcell hb1 (by go_simp)
  have c5 : w1.cell? ⟨w.heap.size, 5, none⟩ = some (.int .i64 x.s3) := bcell hb1 (by go_simp)
  have c6 : w1.cell? ⟨w.heap.size, 6, none⟩ = some (.int .i64 x.s4) := bcell hb1 (by go_simp)
  have B1 := below_next (below_alloc (Below.refl w.heap.size w) _) hb1
  go_wp2_with fail
  refine (may x.mail _).mono ?_
  rintro e w2 ⟨rfl, hb2⟩
  rw [hm]
  replace c0 := bcell hb2 c0
  replace c1 := bcell hb2 c1
  replace c2 := bcell hb2 c2
  replace c3 := bcell hb2 c3
  replace c4 := bcell hb2 c4
  replace c5 := bcell hb2 c5
  replace c6 := bcell hb2 c6
  have B2 := below_next B1 hb2
  go_wp2_with fail
  refine (words w.heap.size _).mono ?_
  rintro e w3 ⟨rfl, hb3⟩
  replace c0 := bcell hb3 c0
  replace c1 := bcell hb3 c1
  replace c2 := bcell hb3 c2
  replace c3 := bcell hb3 c3
  replace c4 := bcell hb3 c4
  replace c5 := bcell hb3 c5
  replace c6 := bcell hb3 c6
  have B3 := below_next B2 hb3
  simp only [plc]
  have i0 := idx0
  have i1 := idx1
  have i2 := idx2
  have i3 := idx3
  have i4 := idx4
  go_wp2
  refine wp_loop_rounds 6 ?_
  rw [rounds_succ]
  go_wp2_with fail
  refine (put32 x.s0 _).mono ?_
  rintro e w4 ⟨rfl, hb4⟩
  replace c2 := bcell hb4 c2
  replace c3 := bcell hb4 c3
  replace c4 := bcell hb4 c4
  replace c5 := bcell hb4 c5
  replace c6 := bcell hb4 c6
  have B4 := below_next B3 hb4
  go_wp2
  rw [rounds_succ]
  go_wp2_with fail
  refine (put32 x.s1 _).mono ?_
  rintro e w5 ⟨rfl, hb5⟩
  replace c2 := bcell hb5 c2
  replace c3 := bcell hb5 c3
  replace c4 := bcell hb5 c4
  replace c5 := bcell hb5 c5
  replace c6 := bcell hb5 c6
  have B5 := below_next B4 hb5
  go_wp2
  rw [rounds_succ]
  go_wp2_with fail
  refine (put32 x.s2 _).mono ?_
  rintro e w6 ⟨rfl, hb6⟩
  replace c2 := bcell hb6 c2
  replace c3 := bcell hb6 c3
  replace c4 := bcell hb6 c4
  replace c5 := bcell hb6 c5
  replace c6 := bcell hb6 c6
  have B6 := below_next B5 hb6
  go_wp2
  rw [rounds_succ]
  go_wp2_with fail
  refine (put32 x.s3 _).mono ?_
  rintro e w7 ⟨rfl, hb7⟩
  replace c2 := bcell hb7 c2
  replace c3 := bcell hb7 c3
  replace c4 := bcell hb7 c4
  replace c5 := bcell hb7 c5
  replace c6 := bcell hb7 c6
  have B7 := below_next B6 hb7
  go_wp2
  rw [rounds_succ]
  go_wp2_with fail
  refine (put32 x.s4 _).mono ?_
  rintro e w8 ⟨rfl, hb8⟩
  replace c2 := bcell hb8 c2
  replace c3 := bcell hb8 c3
  replace c4 := bcell hb8 c4
  replace c5 := bcell hb8 c5
  replace c6 := bcell hb8 c6
  have B8 := below_next B7 hb8
  go_wp2
  rw [rounds_succ]
  go_wp2
  go_ret2
  exact ⟨rfl, B8⟩

set_option maxRecDepth 100000 in
set_option maxHeartbeats 2000000 in
theorem soaLo0 (x : Soa) (w : World) (hn : nameB x.host = true) (hm : nameB x.mail = true)  (gb : wideB x.s0 = false) (hx : x.s0 < 0) : Calls Try.prog 35 #[x.val] w fun e w' => e = ans x.S x.E ∧ Below w.heap.size w w' := by
  have e1 : x.ok = false := by unfold Soa.ok; rw [hn, hm, gb]; simp
  have e2 : x.S = emp := by unfold Soa.S; rw [e1]; rfl
  have e3 : x.E = 400 := by unfold Soa.E; rw [e1]; rfl
  unfold ans
  rw [e2, e3]
  have a0 : decide (x.s0 < 0) = true := decide_eq_true hx
  have hz := nameB_size hn
  have hy := nameB_size hm
  have l0 : ¬ 9223372036854775807 < (x.host).size + x.mail.size := by (try simp only [ByteArray.size_append, p32_size]); omega
  clear hx gb e1 e2 e3 hz hy
  unfold Soa.val
  go_enter Try.func35, Try.ntmps35
  go_wp2_with fail
  refine (may x.host _).mono ?_
  rintro e w1 ⟨rfl, hb1⟩
  rw [hn]
  have c0 : w1.cell? ⟨w.heap.size, 0, none⟩ = some (.string x.host) := bcell hb1 (by go_simp)
  have c1 : w1.cell? ⟨w.heap.size, 1, none⟩ = some (.string x.mail) := bcell hb1 (by go_simp)
  have c2 : w1.cell? ⟨w.heap.size, 2, none⟩ = some (.int .i64 x.s0) := bcell hb1 (by go_simp)
  have c3 : w1.cell? ⟨w.heap.size, 3, none⟩ = some (.int .i64 x.s1) := bcell hb1 (by go_simp)
  have c4 : w1.cell? ⟨w.heap.size, 4, none⟩ = some (.int .i64 x.s2) := bcell hb1 (by go_simp)
  have c5 : w1.cell? ⟨w.heap.size, 5, none⟩ = some (.int .i64 x.s3) := bcell hb1 (by go_simp)
  have c6 : w1.cell? ⟨w.heap.size, 6, none⟩ = some (.int .i64 x.s4) := bcell hb1 (by go_simp)
  have B1 := below_next (below_alloc (Below.refl w.heap.size w) _) hb1
  go_wp2_with fail
  refine (may x.mail _).mono ?_
  rintro e w2 ⟨rfl, hb2⟩
  rw [hm]
  replace c0 := bcell hb2 c0
  replace c1 := bcell hb2 c1
  replace c2 := bcell hb2 c2
  replace c3 := bcell hb2 c3
  replace c4 := bcell hb2 c4
  replace c5 := bcell hb2 c5
  replace c6 := bcell hb2 c6
  have B2 := below_next B1 hb2
  go_wp2_with fail
  refine (words w.heap.size _).mono ?_
  rintro e w3 ⟨rfl, hb3⟩
  replace c0 := bcell hb3 c0
  replace c1 := bcell hb3 c1
  replace c2 := bcell hb3 c2
  replace c3 := bcell hb3 c3
  replace c4 := bcell hb3 c4
  replace c5 := bcell hb3 c5
  replace c6 := bcell hb3 c6
  have B3 := below_next B2 hb3
  simp only [plc]
  have i0 := idx0
  have i1 := idx1
  have i2 := idx2
  have i3 := idx3
  have i4 := idx4
  go_wp2
  refine wp_loop_rounds 6 ?_
  rw [rounds_succ]
  go_wp2
  go_ret2
  exact ⟨rfl, B3⟩

set_option maxRecDepth 100000 in
set_option maxHeartbeats 2000000 in
theorem soaHi0 (x : Soa) (w : World) (hn : nameB x.host = true) (hm : nameB x.mail = true)  (gb : wideB x.s0 = false) (hx : 4294967295 < x.s0) : Calls Try.prog 35 #[x.val] w fun e w' => e = ans x.S x.E ∧ Below w.heap.size w w' := by
  have e1 : x.ok = false := by unfold Soa.ok; rw [hn, hm, gb]; simp
  have e2 : x.S = emp := by unfold Soa.S; rw [e1]; rfl
  have e3 : x.E = 400 := by unfold Soa.E; rw [e1]; rfl
  unfold ans
  rw [e2, e3]
  have a0 : decide (x.s0 < 0) = false := decide_eq_false (by omega)
  have b0 : decide (4294967295 < x.s0) = true := decide_eq_true hx
  have hz := nameB_size hn
  have hy := nameB_size hm
  have l0 : ¬ 9223372036854775807 < (x.host).size + x.mail.size := by (try simp only [ByteArray.size_append, p32_size]); omega
  clear hx gb e1 e2 e3 hz hy
  unfold Soa.val
  go_enter Try.func35, Try.ntmps35
  go_wp2_with fail
  refine (may x.host _).mono ?_
  rintro e w1 ⟨rfl, hb1⟩
  rw [hn]
  have c0 : w1.cell? ⟨w.heap.size, 0, none⟩ = some (.string x.host) := bcell hb1 (by go_simp)
  have c1 : w1.cell? ⟨w.heap.size, 1, none⟩ = some (.string x.mail) := bcell hb1 (by go_simp)
  have c2 : w1.cell? ⟨w.heap.size, 2, none⟩ = some (.int .i64 x.s0) := bcell hb1 (by go_simp)
  have c3 : w1.cell? ⟨w.heap.size, 3, none⟩ = some (.int .i64 x.s1) := bcell hb1 (by go_simp)
  have c4 : w1.cell? ⟨w.heap.size, 4, none⟩ = some (.int .i64 x.s2) := bcell hb1 (by go_simp)
  have c5 : w1.cell? ⟨w.heap.size, 5, none⟩ = some (.int .i64 x.s3) := bcell hb1 (by go_simp)
  have c6 : w1.cell? ⟨w.heap.size, 6, none⟩ = some (.int .i64 x.s4) := bcell hb1 (by go_simp)
  have B1 := below_next (below_alloc (Below.refl w.heap.size w) _) hb1
  go_wp2_with fail
  refine (may x.mail _).mono ?_
  rintro e w2 ⟨rfl, hb2⟩
  rw [hm]
  replace c0 := bcell hb2 c0
  replace c1 := bcell hb2 c1
  replace c2 := bcell hb2 c2
  replace c3 := bcell hb2 c3
  replace c4 := bcell hb2 c4
  replace c5 := bcell hb2 c5
  replace c6 := bcell hb2 c6
  have B2 := below_next B1 hb2
  go_wp2_with fail
  refine (words w.heap.size _).mono ?_
  rintro e w3 ⟨rfl, hb3⟩
  replace c0 := bcell hb3 c0
  replace c1 := bcell hb3 c1
  replace c2 := bcell hb3 c2
  replace c3 := bcell hb3 c3
  replace c4 := bcell hb3 c4
  replace c5 := bcell hb3 c5
  replace c6 := bcell hb3 c6
  have B3 := below_next B2 hb3
  simp only [plc]
  have i0 := idx0
  have i1 := idx1
  have i2 := idx2
  have i3 := idx3
  have i4 := idx4
  go_wp2
  refine wp_loop_rounds 6 ?_
  rw [rounds_succ]
  go_wp2
  go_ret2
  exact ⟨rfl, B3⟩

set_option maxRecDepth 100000 in
set_option maxHeartbeats 2000000 in
theorem soaLo1 (x : Soa) (w : World) (hn : nameB x.host = true) (hm : nameB x.mail = true) (g0 : wideB x.s0 = true) (gb : wideB x.s1 = false) (hx : x.s1 < 0) : Calls Try.prog 35 #[x.val] w fun e w' => e = ans x.S x.E ∧ Below w.heap.size w w' := by
  have e1 : x.ok = false := by unfold Soa.ok; rw [hn, hm, g0, gb]; simp
  have e2 : x.S = emp := by unfold Soa.S; rw [e1]; rfl
  have e3 : x.E = 400 := by unfold Soa.E; rw [e1]; rfl
  unfold ans
  rw [e2, e3]
  have a0 : decide (x.s0 < 0) = false := decide_eq_false (by have := wideB_iff.1 g0; omega)
  have b0 : decide (4294967295 < x.s0) = false := decide_eq_false (by have := wideB_iff.1 g0; omega)
  have a1 : decide (x.s1 < 0) = true := decide_eq_true hx
  have hz := nameB_size hn
  have hy := nameB_size hm
  have l0 : ¬ 9223372036854775807 < (x.host).size + x.mail.size := by (try simp only [ByteArray.size_append, p32_size]); omega
  have l1 : ¬ 9223372036854775807 < (x.host ++ x.mail).size + (p32 x.s0).size := by (try simp only [ByteArray.size_append, p32_size]); omega
  clear g0 hx gb e1 e2 e3 hz hy
  unfold Soa.val
  go_enter Try.func35, Try.ntmps35
  go_wp2_with fail
  refine (may x.host _).mono ?_
  rintro e w1 ⟨rfl, hb1⟩
  rw [hn]
  have c0 : w1.cell? ⟨w.heap.size, 0, none⟩ = some (.string x.host) := bcell hb1 (by go_simp)
  have c1 : w1.cell? ⟨w.heap.size, 1, none⟩ = some (.string x.mail) := bcell hb1 (by go_simp)
  have c2 : w1.cell? ⟨w.heap.size, 2, none⟩ = some (.int .i64 x.s0) := bcell hb1 (by go_simp)
  have c3 : w1.cell? ⟨w.heap.size, 3, none⟩ = some (.int .i64 x.s1) := bcell hb1 (by go_simp)
  have c4 : w1.cell? ⟨w.heap.size, 4, none⟩ = some (.int .i64 x.s2) := bcell hb1 (by go_simp)
  have c5 : w1.cell? ⟨w.heap.size, 5, none⟩ = some (.int .i64 x.s3) := bcell hb1 (by go_simp)
  have c6 : w1.cell? ⟨w.heap.size, 6, none⟩ = some (.int .i64 x.s4) := bcell hb1 (by go_simp)
  have B1 := below_next (below_alloc (Below.refl w.heap.size w) _) hb1
  go_wp2_with fail
  refine (may x.mail _).mono ?_
  rintro e w2 ⟨rfl, hb2⟩
  rw [hm]
  replace c0 := bcell hb2 c0
  replace c1 := bcell hb2 c1
  replace c2 := bcell hb2 c2
  replace c3 := bcell hb2 c3
  replace c4 := bcell hb2 c4
  replace c5 := bcell hb2 c5
  replace c6 := bcell hb2 c6
  have B2 := below_next B1 hb2
  go_wp2_with fail
  refine (words w.heap.size _).mono ?_
  rintro e w3 ⟨rfl, hb3⟩
  replace c0 := bcell hb3 c0
  replace c1 := bcell hb3 c1
  replace c2 := bcell hb3 c2
  replace c3 := bcell hb3 c3
  replace c4 := bcell hb3 c4
  replace c5 := bcell hb3 c5
  replace c6 := bcell hb3 c6
  have B3 := below_next B2 hb3
  simp only [plc]
  have i0 := idx0
  have i1 := idx1
  have i2 := idx2
  have i3 := idx3
  have i4 := idx4
  go_wp2
  refine wp_loop_rounds 6 ?_
  rw [rounds_succ]
  go_wp2_with fail
  refine (put32 x.s0 _).mono ?_
  rintro e w4 ⟨rfl, hb4⟩
  replace c2 := bcell hb4 c2
  replace c3 := bcell hb4 c3
  replace c4 := bcell hb4 c4
  replace c5 := bcell hb4 c5
  replace c6 := bcell hb4 c6
  have B4 := below_next B3 hb4
  go_wp2
  rw [rounds_succ]
  go_wp2
  go_ret2
  exact ⟨rfl, B4⟩

set_option maxRecDepth 100000 in
set_option maxHeartbeats 2000000 in
theorem soaHi1 (x : Soa) (w : World) (hn : nameB x.host = true) (hm : nameB x.mail = true) (g0 : wideB x.s0 = true) (gb : wideB x.s1 = false) (hx : 4294967295 < x.s1) : Calls Try.prog 35 #[x.val] w fun e w' => e = ans x.S x.E ∧ Below w.heap.size w w' := by
  have e1 : x.ok = false := by unfold Soa.ok; rw [hn, hm, g0, gb]; simp
  have e2 : x.S = emp := by unfold Soa.S; rw [e1]; rfl
  have e3 : x.E = 400 := by unfold Soa.E; rw [e1]; rfl
  unfold ans
  rw [e2, e3]
  have a0 : decide (x.s0 < 0) = false := decide_eq_false (by have := wideB_iff.1 g0; omega)
  have b0 : decide (4294967295 < x.s0) = false := decide_eq_false (by have := wideB_iff.1 g0; omega)
  have a1 : decide (x.s1 < 0) = false := decide_eq_false (by omega)
  have b1 : decide (4294967295 < x.s1) = true := decide_eq_true hx
  have hz := nameB_size hn
  have hy := nameB_size hm
  have l0 : ¬ 9223372036854775807 < (x.host).size + x.mail.size := by (try simp only [ByteArray.size_append, p32_size]); omega
  have l1 : ¬ 9223372036854775807 < (x.host ++ x.mail).size + (p32 x.s0).size := by (try simp only [ByteArray.size_append, p32_size]); omega
  clear g0 hx gb e1 e2 e3 hz hy
  unfold Soa.val
  go_enter Try.func35, Try.ntmps35
  go_wp2_with fail
  refine (may x.host _).mono ?_
  rintro e w1 ⟨rfl, hb1⟩
  rw [hn]
  have c0 : w1.cell? ⟨w.heap.size, 0, none⟩ = some (.string x.host) := bcell hb1 (by go_simp)
  have c1 : w1.cell? ⟨w.heap.size, 1, none⟩ = some (.string x.mail) := bcell hb1 (by go_simp)
  have c2 : w1.cell? ⟨w.heap.size, 2, none⟩ = some (.int .i64 x.s0) := bcell hb1 (by go_simp)
  have c3 : w1.cell? ⟨w.heap.size, 3, none⟩ = some (.int .i64 x.s1) := bcell hb1 (by go_simp)
  have c4 : w1.cell? ⟨w.heap.size, 4, none⟩ = some (.int .i64 x.s2) := bcell hb1 (by go_simp)
  have c5 : w1.cell? ⟨w.heap.size, 5, none⟩ = some (.int .i64 x.s3) := bcell hb1 (by go_simp)
  have c6 : w1.cell? ⟨w.heap.size, 6, none⟩ = some (.int .i64 x.s4) := bcell hb1 (by go_simp)
  have B1 := below_next (below_alloc (Below.refl w.heap.size w) _) hb1
  go_wp2_with fail
  refine (may x.mail _).mono ?_
  rintro e w2 ⟨rfl, hb2⟩
  rw [hm]
  replace c0 := bcell hb2 c0
  replace c1 := bcell hb2 c1
  replace c2 := bcell hb2 c2
  replace c3 := bcell hb2 c3
  replace c4 := bcell hb2 c4
  replace c5 := bcell hb2 c5
  replace c6 := bcell hb2 c6
  have B2 := below_next B1 hb2
  go_wp2_with fail
  refine (words w.heap.size _).mono ?_
  rintro e w3 ⟨rfl, hb3⟩
  replace c0 := bcell hb3 c0
  replace c1 := bcell hb3 c1
  replace c2 := bcell hb3 c2
  replace c3 := bcell hb3 c3
  replace c4 := bcell hb3 c4
  replace c5 := bcell hb3 c5
  replace c6 := bcell hb3 c6
  have B3 := below_next B2 hb3
  simp only [plc]
  have i0 := idx0
  have i1 := idx1
  have i2 := idx2
  have i3 := idx3
  have i4 := idx4
  go_wp2
  refine wp_loop_rounds 6 ?_
  rw [rounds_succ]
  go_wp2_with fail
  refine (put32 x.s0 _).mono ?_
  rintro e w4 ⟨rfl, hb4⟩
  replace c2 := bcell hb4 c2
  replace c3 := bcell hb4 c3
  replace c4 := bcell hb4 c4
  replace c5 := bcell hb4 c5
  replace c6 := bcell hb4 c6
  have B4 := below_next B3 hb4
  go_wp2
  rw [rounds_succ]
  go_wp2
  go_ret2
  exact ⟨rfl, B4⟩

set_option maxRecDepth 100000 in
set_option maxHeartbeats 2000000 in
theorem soaLo2 (x : Soa) (w : World) (hn : nameB x.host = true) (hm : nameB x.mail = true) (g0 : wideB x.s0 = true) (g1 : wideB x.s1 = true) (gb : wideB x.s2 = false) (hx : x.s2 < 0) : Calls Try.prog 35 #[x.val] w fun e w' => e = ans x.S x.E ∧ Below w.heap.size w w' := by
  have e1 : x.ok = false := by unfold Soa.ok; rw [hn, hm, g0, g1, gb]; simp
  have e2 : x.S = emp := by unfold Soa.S; rw [e1]; rfl
  have e3 : x.E = 400 := by unfold Soa.E; rw [e1]; rfl
  unfold ans
  rw [e2, e3]
  have a0 : decide (x.s0 < 0) = false := decide_eq_false (by have := wideB_iff.1 g0; omega)
  have b0 : decide (4294967295 < x.s0) = false := decide_eq_false (by have := wideB_iff.1 g0; omega)
  have a1 : decide (x.s1 < 0) = false := decide_eq_false (by have := wideB_iff.1 g1; omega)
  have b1 : decide (4294967295 < x.s1) = false := decide_eq_false (by have := wideB_iff.1 g1; omega)
  have a2 : decide (x.s2 < 0) = true := decide_eq_true hx
  have hz := nameB_size hn
  have hy := nameB_size hm
  have l0 : ¬ 9223372036854775807 < (x.host).size + x.mail.size := by (try simp only [ByteArray.size_append, p32_size]); omega
  have l1 : ¬ 9223372036854775807 < (x.host ++ x.mail).size + (p32 x.s0).size := by (try simp only [ByteArray.size_append, p32_size]); omega
  have l2 : ¬ 9223372036854775807 < (x.host ++ x.mail ++ (p32 x.s0)).size + (p32 x.s1).size := by (try simp only [ByteArray.size_append, p32_size]); omega
  clear g0 g1 hx gb e1 e2 e3 hz hy
  unfold Soa.val
  go_enter Try.func35, Try.ntmps35
  go_wp2_with fail
  refine (may x.host _).mono ?_
  rintro e w1 ⟨rfl, hb1⟩
  rw [hn]
  have c0 : w1.cell? ⟨w.heap.size, 0, none⟩ = some (.string x.host) := bcell hb1 (by go_simp)
  have c1 : w1.cell? ⟨w.heap.size, 1, none⟩ = some (.string x.mail) := bcell hb1 (by go_simp)
  have c2 : w1.cell? ⟨w.heap.size, 2, none⟩ = some (.int .i64 x.s0) := bcell hb1 (by go_simp)
  have c3 : w1.cell? ⟨w.heap.size, 3, none⟩ = some (.int .i64 x.s1) := bcell hb1 (by go_simp)
  have c4 : w1.cell? ⟨w.heap.size, 4, none⟩ = some (.int .i64 x.s2) := bcell hb1 (by go_simp)
  have c5 : w1.cell? ⟨w.heap.size, 5, none⟩ = some (.int .i64 x.s3) := bcell hb1 (by go_simp)
  have c6 : w1.cell? ⟨w.heap.size, 6, none⟩ = some (.int .i64 x.s4) := bcell hb1 (by go_simp)
  have B1 := below_next (below_alloc (Below.refl w.heap.size w) _) hb1
  go_wp2_with fail
  refine (may x.mail _).mono ?_
  rintro e w2 ⟨rfl, hb2⟩
  rw [hm]
  replace c0 := bcell hb2 c0
  replace c1 := bcell hb2 c1
  replace c2 := bcell hb2 c2
  replace c3 := bcell hb2 c3
  replace c4 := bcell hb2 c4
  replace c5 := bcell hb2 c5
  replace c6 := bcell hb2 c6
  have B2 := below_next B1 hb2
  go_wp2_with fail
  refine (words w.heap.size _).mono ?_
  rintro e w3 ⟨rfl, hb3⟩
  replace c0 := bcell hb3 c0
  replace c1 := bcell hb3 c1
  replace c2 := bcell hb3 c2
  replace c3 := bcell hb3 c3
  replace c4 := bcell hb3 c4
  replace c5 := bcell hb3 c5
  replace c6 := bcell hb3 c6
  have B3 := below_next B2 hb3
  simp only [plc]
  have i0 := idx0
  have i1 := idx1
  have i2 := idx2
  have i3 := idx3
  have i4 := idx4
  go_wp2
  refine wp_loop_rounds 6 ?_
  rw [rounds_succ]
  go_wp2_with fail
  refine (put32 x.s0 _).mono ?_
  rintro e w4 ⟨rfl, hb4⟩
  replace c2 := bcell hb4 c2
  replace c3 := bcell hb4 c3
  replace c4 := bcell hb4 c4
  replace c5 := bcell hb4 c5
  replace c6 := bcell hb4 c6
  have B4 := below_next B3 hb4
  go_wp2
  rw [rounds_succ]
  go_wp2_with fail
  refine (put32 x.s1 _).mono ?_
  rintro e w5 ⟨rfl, hb5⟩
  replace c2 := bcell hb5 c2
  replace c3 := bcell hb5 c3
  replace c4 := bcell hb5 c4
  replace c5 := bcell hb5 c5
  replace c6 := bcell hb5 c6
  have B5 := below_next B4 hb5
  go_wp2
  rw [rounds_succ]
  go_wp2
  go_ret2
  exact ⟨rfl, B5⟩

set_option maxRecDepth 100000 in
set_option maxHeartbeats 2000000 in
theorem soaHi2 (x : Soa) (w : World) (hn : nameB x.host = true) (hm : nameB x.mail = true) (g0 : wideB x.s0 = true) (g1 : wideB x.s1 = true) (gb : wideB x.s2 = false) (hx : 4294967295 < x.s2) : Calls Try.prog 35 #[x.val] w fun e w' => e = ans x.S x.E ∧ Below w.heap.size w w' := by
  have e1 : x.ok = false := by unfold Soa.ok; rw [hn, hm, g0, g1, gb]; simp
  have e2 : x.S = emp := by unfold Soa.S; rw [e1]; rfl
  have e3 : x.E = 400 := by unfold Soa.E; rw [e1]; rfl
  unfold ans
  rw [e2, e3]
  have a0 : decide (x.s0 < 0) = false := decide_eq_false (by have := wideB_iff.1 g0; omega)
  have b0 : decide (4294967295 < x.s0) = false := decide_eq_false (by have := wideB_iff.1 g0; omega)
  have a1 : decide (x.s1 < 0) = false := decide_eq_false (by have := wideB_iff.1 g1; omega)
  have b1 : decide (4294967295 < x.s1) = false := decide_eq_false (by have := wideB_iff.1 g1; omega)
  have a2 : decide (x.s2 < 0) = false := decide_eq_false (by omega)
  have b2 : decide (4294967295 < x.s2) = true := decide_eq_true hx
  have hz := nameB_size hn
  have hy := nameB_size hm
  have l0 : ¬ 9223372036854775807 < (x.host).size + x.mail.size := by (try simp only [ByteArray.size_append, p32_size]); omega
  have l1 : ¬ 9223372036854775807 < (x.host ++ x.mail).size + (p32 x.s0).size := by (try simp only [ByteArray.size_append, p32_size]); omega
  have l2 : ¬ 9223372036854775807 < (x.host ++ x.mail ++ (p32 x.s0)).size + (p32 x.s1).size := by (try simp only [ByteArray.size_append, p32_size]); omega
  clear g0 g1 hx gb e1 e2 e3 hz hy
  unfold Soa.val
  go_enter Try.func35, Try.ntmps35
  go_wp2_with fail
  refine (may x.host _).mono ?_
  rintro e w1 ⟨rfl, hb1⟩
  rw [hn]
  have c0 : w1.cell? ⟨w.heap.size, 0, none⟩ = some (.string x.host) := bcell hb1 (by go_simp)
  have c1 : w1.cell? ⟨w.heap.size, 1, none⟩ = some (.string x.mail) := bcell hb1 (by go_simp)
  have c2 : w1.cell? ⟨w.heap.size, 2, none⟩ = some (.int .i64 x.s0) := bcell hb1 (by go_simp)
  have c3 : w1.cell? ⟨w.heap.size, 3, none⟩ = some (.int .i64 x.s1) := bcell hb1 (by go_simp)
  have c4 : w1.cell? ⟨w.heap.size, 4, none⟩ = some (.int .i64 x.s2) := bcell hb1 (by go_simp)
  have c5 : w1.cell? ⟨w.heap.size, 5, none⟩ = some (.int .i64 x.s3) := bcell hb1 (by go_simp)
  have c6 : w1.cell? ⟨w.heap.size, 6, none⟩ = some (.int .i64 x.s4) := bcell hb1 (by go_simp)
  have B1 := below_next (below_alloc (Below.refl w.heap.size w) _) hb1
  go_wp2_with fail
  refine (may x.mail _).mono ?_
  rintro e w2 ⟨rfl, hb2⟩
  rw [hm]
  replace c0 := bcell hb2 c0
  replace c1 := bcell hb2 c1
  replace c2 := bcell hb2 c2
  replace c3 := bcell hb2 c3
  replace c4 := bcell hb2 c4
  replace c5 := bcell hb2 c5
  replace c6 := bcell hb2 c6
  have B2 := below_next B1 hb2
  go_wp2_with fail
  refine (words w.heap.size _).mono ?_
  rintro e w3 ⟨rfl, hb3⟩
  replace c0 := bcell hb3 c0
  replace c1 := bcell hb3 c1
  replace c2 := bcell hb3 c2
  replace c3 := bcell hb3 c3
  replace c4 := bcell hb3 c4
  replace c5 := bcell hb3 c5
  replace c6 := bcell hb3 c6
  have B3 := below_next B2 hb3
  simp only [plc]
  have i0 := idx0
  have i1 := idx1
  have i2 := idx2
  have i3 := idx3
  have i4 := idx4
  go_wp2
  refine wp_loop_rounds 6 ?_
  rw [rounds_succ]
  go_wp2_with fail
  refine (put32 x.s0 _).mono ?_
  rintro e w4 ⟨rfl, hb4⟩
  replace c2 := bcell hb4 c2
  replace c3 := bcell hb4 c3
  replace c4 := bcell hb4 c4
  replace c5 := bcell hb4 c5
  replace c6 := bcell hb4 c6
  have B4 := below_next B3 hb4
  go_wp2
  rw [rounds_succ]
  go_wp2_with fail
  refine (put32 x.s1 _).mono ?_
  rintro e w5 ⟨rfl, hb5⟩
  replace c2 := bcell hb5 c2
  replace c3 := bcell hb5 c3
  replace c4 := bcell hb5 c4
  replace c5 := bcell hb5 c5
  replace c6 := bcell hb5 c6
  have B5 := below_next B4 hb5
  go_wp2
  rw [rounds_succ]
  go_wp2
  go_ret2
  exact ⟨rfl, B5⟩

set_option maxRecDepth 100000 in
set_option maxHeartbeats 2000000 in
theorem soaLo3 (x : Soa) (w : World) (hn : nameB x.host = true) (hm : nameB x.mail = true) (g0 : wideB x.s0 = true) (g1 : wideB x.s1 = true) (g2 : wideB x.s2 = true) (gb : wideB x.s3 = false) (hx : x.s3 < 0) : Calls Try.prog 35 #[x.val] w fun e w' => e = ans x.S x.E ∧ Below w.heap.size w w' := by
  have e1 : x.ok = false := by unfold Soa.ok; rw [hn, hm, g0, g1, g2, gb]; simp
  have e2 : x.S = emp := by unfold Soa.S; rw [e1]; rfl
  have e3 : x.E = 400 := by unfold Soa.E; rw [e1]; rfl
  unfold ans
  rw [e2, e3]
  have a0 : decide (x.s0 < 0) = false := decide_eq_false (by have := wideB_iff.1 g0; omega)
  have b0 : decide (4294967295 < x.s0) = false := decide_eq_false (by have := wideB_iff.1 g0; omega)
  have a1 : decide (x.s1 < 0) = false := decide_eq_false (by have := wideB_iff.1 g1; omega)
  have b1 : decide (4294967295 < x.s1) = false := decide_eq_false (by have := wideB_iff.1 g1; omega)
  have a2 : decide (x.s2 < 0) = false := decide_eq_false (by have := wideB_iff.1 g2; omega)
  have b2 : decide (4294967295 < x.s2) = false := decide_eq_false (by have := wideB_iff.1 g2; omega)
  have a3 : decide (x.s3 < 0) = true := decide_eq_true hx
  have hz := nameB_size hn
  have hy := nameB_size hm
  have l0 : ¬ 9223372036854775807 < (x.host).size + x.mail.size := by (try simp only [ByteArray.size_append, p32_size]); omega
  have l1 : ¬ 9223372036854775807 < (x.host ++ x.mail).size + (p32 x.s0).size := by (try simp only [ByteArray.size_append, p32_size]); omega
  have l2 : ¬ 9223372036854775807 < (x.host ++ x.mail ++ (p32 x.s0)).size + (p32 x.s1).size := by (try simp only [ByteArray.size_append, p32_size]); omega
  have l3 : ¬ 9223372036854775807 < (x.host ++ x.mail ++ (p32 x.s0) ++ (p32 x.s1)).size + (p32 x.s2).size := by (try simp only [ByteArray.size_append, p32_size]); omega
  clear g0 g1 g2 hx gb e1 e2 e3 hz hy
  unfold Soa.val
  go_enter Try.func35, Try.ntmps35
  go_wp2_with fail
  refine (may x.host _).mono ?_
  rintro e w1 ⟨rfl, hb1⟩
  rw [hn]
  have c0 : w1.cell? ⟨w.heap.size, 0, none⟩ = some (.string x.host) := bcell hb1 (by go_simp)
  have c1 : w1.cell? ⟨w.heap.size, 1, none⟩ = some (.string x.mail) := bcell hb1 (by go_simp)
  have c2 : w1.cell? ⟨w.heap.size, 2, none⟩ = some (.int .i64 x.s0) := bcell hb1 (by go_simp)
  have c3 : w1.cell? ⟨w.heap.size, 3, none⟩ = some (.int .i64 x.s1) := bcell hb1 (by go_simp)
  have c4 : w1.cell? ⟨w.heap.size, 4, none⟩ = some (.int .i64 x.s2) := bcell hb1 (by go_simp)
  have c5 : w1.cell? ⟨w.heap.size, 5, none⟩ = some (.int .i64 x.s3) := bcell hb1 (by go_simp)
  have c6 : w1.cell? ⟨w.heap.size, 6, none⟩ = some (.int .i64 x.s4) := bcell hb1 (by go_simp)
  have B1 := below_next (below_alloc (Below.refl w.heap.size w) _) hb1
  go_wp2_with fail
  refine (may x.mail _).mono ?_
  rintro e w2 ⟨rfl, hb2⟩
  rw [hm]
  replace c0 := bcell hb2 c0
  replace c1 := bcell hb2 c1
  replace c2 := bcell hb2 c2
  replace c3 := bcell hb2 c3
  replace c4 := bcell hb2 c4
  replace c5 := bcell hb2 c5
  replace c6 := bcell hb2 c6
  have B2 := below_next B1 hb2
  go_wp2_with fail
  refine (words w.heap.size _).mono ?_
  rintro e w3 ⟨rfl, hb3⟩
  replace c0 := bcell hb3 c0
  replace c1 := bcell hb3 c1
  replace c2 := bcell hb3 c2
  replace c3 := bcell hb3 c3
  replace c4 := bcell hb3 c4
  replace c5 := bcell hb3 c5
  replace c6 := bcell hb3 c6
  have B3 := below_next B2 hb3
  simp only [plc]
  have i0 := idx0
  have i1 := idx1
  have i2 := idx2
  have i3 := idx3
  have i4 := idx4
  go_wp2
  refine wp_loop_rounds 6 ?_
  rw [rounds_succ]
  go_wp2_with fail
  refine (put32 x.s0 _).mono ?_
  rintro e w4 ⟨rfl, hb4⟩
  replace c2 := bcell hb4 c2
  replace c3 := bcell hb4 c3
  replace c4 := bcell hb4 c4
  replace c5 := bcell hb4 c5
  replace c6 := bcell hb4 c6
  have B4 := below_next B3 hb4
  go_wp2
  rw [rounds_succ]
  go_wp2_with fail
  refine (put32 x.s1 _).mono ?_
  rintro e w5 ⟨rfl, hb5⟩
  replace c2 := bcell hb5 c2
  replace c3 := bcell hb5 c3
  replace c4 := bcell hb5 c4
  replace c5 := bcell hb5 c5
  replace c6 := bcell hb5 c6
  have B5 := below_next B4 hb5
  go_wp2
  rw [rounds_succ]
  go_wp2_with fail
  refine (put32 x.s2 _).mono ?_
  rintro e w6 ⟨rfl, hb6⟩
  replace c2 := bcell hb6 c2
  replace c3 := bcell hb6 c3
  replace c4 := bcell hb6 c4
  replace c5 := bcell hb6 c5
  replace c6 := bcell hb6 c6
  have B6 := below_next B5 hb6
  go_wp2
  rw [rounds_succ]
  go_wp2
  go_ret2
  exact ⟨rfl, B6⟩

set_option maxRecDepth 100000 in
set_option maxHeartbeats 2000000 in
theorem soaHi3 (x : Soa) (w : World) (hn : nameB x.host = true) (hm : nameB x.mail = true) (g0 : wideB x.s0 = true) (g1 : wideB x.s1 = true) (g2 : wideB x.s2 = true) (gb : wideB x.s3 = false) (hx : 4294967295 < x.s3) : Calls Try.prog 35 #[x.val] w fun e w' => e = ans x.S x.E ∧ Below w.heap.size w w' := by
  have e1 : x.ok = false := by unfold Soa.ok; rw [hn, hm, g0, g1, g2, gb]; simp
  have e2 : x.S = emp := by unfold Soa.S; rw [e1]; rfl
  have e3 : x.E = 400 := by unfold Soa.E; rw [e1]; rfl
  unfold ans
  rw [e2, e3]
  have a0 : decide (x.s0 < 0) = false := decide_eq_false (by have := wideB_iff.1 g0; omega)
  have b0 : decide (4294967295 < x.s0) = false := decide_eq_false (by have := wideB_iff.1 g0; omega)
  have a1 : decide (x.s1 < 0) = false := decide_eq_false (by have := wideB_iff.1 g1; omega)
  have b1 : decide (4294967295 < x.s1) = false := decide_eq_false (by have := wideB_iff.1 g1; omega)
  have a2 : decide (x.s2 < 0) = false := decide_eq_false (by have := wideB_iff.1 g2; omega)
  have b2 : decide (4294967295 < x.s2) = false := decide_eq_false (by have := wideB_iff.1 g2; omega)
  have a3 : decide (x.s3 < 0) = false := decide_eq_false (by omega)
  have b3 : decide (4294967295 < x.s3) = true := decide_eq_true hx
  have hz := nameB_size hn
  have hy := nameB_size hm
  have l0 : ¬ 9223372036854775807 < (x.host).size + x.mail.size := by (try simp only [ByteArray.size_append, p32_size]); omega
  have l1 : ¬ 9223372036854775807 < (x.host ++ x.mail).size + (p32 x.s0).size := by (try simp only [ByteArray.size_append, p32_size]); omega
  have l2 : ¬ 9223372036854775807 < (x.host ++ x.mail ++ (p32 x.s0)).size + (p32 x.s1).size := by (try simp only [ByteArray.size_append, p32_size]); omega
  have l3 : ¬ 9223372036854775807 < (x.host ++ x.mail ++ (p32 x.s0) ++ (p32 x.s1)).size + (p32 x.s2).size := by (try simp only [ByteArray.size_append, p32_size]); omega
  clear g0 g1 g2 hx gb e1 e2 e3 hz hy
  unfold Soa.val
  go_enter Try.func35, Try.ntmps35
  go_wp2_with fail
  refine (may x.host _).mono ?_
  rintro e w1 ⟨rfl, hb1⟩
  rw [hn]
  have c0 : w1.cell? ⟨w.heap.size, 0, none⟩ = some (.string x.host) := bcell hb1 (by go_simp)
  have c1 : w1.cell? ⟨w.heap.size, 1, none⟩ = some (.string x.mail) := bcell hb1 (by go_simp)
  have c2 : w1.cell? ⟨w.heap.size, 2, none⟩ = some (.int .i64 x.s0) := bcell hb1 (by go_simp)
  have c3 : w1.cell? ⟨w.heap.size, 3, none⟩ = some (.int .i64 x.s1) := bcell hb1 (by go_simp)
  have c4 : w1.cell? ⟨w.heap.size, 4, none⟩ = some (.int .i64 x.s2) := bcell hb1 (by go_simp)
  have c5 : w1.cell? ⟨w.heap.size, 5, none⟩ = some (.int .i64 x.s3) := bcell hb1 (by go_simp)
  have c6 : w1.cell? ⟨w.heap.size, 6, none⟩ = some (.int .i64 x.s4) := bcell hb1 (by go_simp)
  have B1 := below_next (below_alloc (Below.refl w.heap.size w) _) hb1
  go_wp2_with fail
  refine (may x.mail _).mono ?_
  rintro e w2 ⟨rfl, hb2⟩
  rw [hm]
  replace c0 := bcell hb2 c0
  replace c1 := bcell hb2 c1
  replace c2 := bcell hb2 c2
  replace c3 := bcell hb2 c3
  replace c4 := bcell hb2 c4
  replace c5 := bcell hb2 c5
  replace c6 := bcell hb2 c6
  have B2 := below_next B1 hb2
  go_wp2_with fail
  refine (words w.heap.size _).mono ?_
  rintro e w3 ⟨rfl, hb3⟩
  replace c0 := bcell hb3 c0
  replace c1 := bcell hb3 c1
  replace c2 := bcell hb3 c2
  replace c3 := bcell hb3 c3
  replace c4 := bcell hb3 c4
  replace c5 := bcell hb3 c5
  replace c6 := bcell hb3 c6
  have B3 := below_next B2 hb3
  simp only [plc]
  have i0 := idx0
  have i1 := idx1
  have i2 := idx2
  have i3 := idx3
  have i4 := idx4
  go_wp2
  refine wp_loop_rounds 6 ?_
  rw [rounds_succ]
  go_wp2_with fail
  refine (put32 x.s0 _).mono ?_
  rintro e w4 ⟨rfl, hb4⟩
  replace c2 := bcell hb4 c2
  replace c3 := bcell hb4 c3
  replace c4 := bcell hb4 c4
  replace c5 := bcell hb4 c5
  replace c6 := bcell hb4 c6
  have B4 := below_next B3 hb4
  go_wp2
  rw [rounds_succ]
  go_wp2_with fail
  refine (put32 x.s1 _).mono ?_
  rintro e w5 ⟨rfl, hb5⟩
  replace c2 := bcell hb5 c2
  replace c3 := bcell hb5 c3
  replace c4 := bcell hb5 c4
  replace c5 := bcell hb5 c5
  replace c6 := bcell hb5 c6
  have B5 := below_next B4 hb5
  go_wp2
  rw [rounds_succ]
  go_wp2_with fail
  refine (put32 x.s2 _).mono ?_
  rintro e w6 ⟨rfl, hb6⟩
  replace c2 := bcell hb6 c2
  replace c3 := bcell hb6 c3
  replace c4 := bcell hb6 c4
  replace c5 := bcell hb6 c5
  replace c6 := bcell hb6 c6
  have B6 := below_next B5 hb6
  go_wp2
  rw [rounds_succ]
  go_wp2
  go_ret2
  exact ⟨rfl, B6⟩

set_option maxRecDepth 100000 in
set_option maxHeartbeats 2000000 in
theorem soaLo4 (x : Soa) (w : World) (hn : nameB x.host = true) (hm : nameB x.mail = true) (g0 : wideB x.s0 = true) (g1 : wideB x.s1 = true) (g2 : wideB x.s2 = true) (g3 : wideB x.s3 = true) (gb : wideB x.s4 = false) (hx : x.s4 < 0) : Calls Try.prog 35 #[x.val] w fun e w' => e = ans x.S x.E ∧ Below w.heap.size w w' := by
  have e1 : x.ok = false := by unfold Soa.ok; rw [hn, hm, g0, g1, g2, g3, gb]; simp
  have e2 : x.S = emp := by unfold Soa.S; rw [e1]; rfl
  have e3 : x.E = 400 := by unfold Soa.E; rw [e1]; rfl
  unfold ans
  rw [e2, e3]
  have a0 : decide (x.s0 < 0) = false := decide_eq_false (by have := wideB_iff.1 g0; omega)
  have b0 : decide (4294967295 < x.s0) = false := decide_eq_false (by have := wideB_iff.1 g0; omega)
  have a1 : decide (x.s1 < 0) = false := decide_eq_false (by have := wideB_iff.1 g1; omega)
  have b1 : decide (4294967295 < x.s1) = false := decide_eq_false (by have := wideB_iff.1 g1; omega)
  have a2 : decide (x.s2 < 0) = false := decide_eq_false (by have := wideB_iff.1 g2; omega)
  have b2 : decide (4294967295 < x.s2) = false := decide_eq_false (by have := wideB_iff.1 g2; omega)
  have a3 : decide (x.s3 < 0) = false := decide_eq_false (by have := wideB_iff.1 g3; omega)
  have b3 : decide (4294967295 < x.s3) = false := decide_eq_false (by have := wideB_iff.1 g3; omega)
  have a4 : decide (x.s4 < 0) = true := decide_eq_true hx
  have hz := nameB_size hn
  have hy := nameB_size hm
  have l0 : ¬ 9223372036854775807 < (x.host).size + x.mail.size := by (try simp only [ByteArray.size_append, p32_size]); omega
  have l1 : ¬ 9223372036854775807 < (x.host ++ x.mail).size + (p32 x.s0).size := by (try simp only [ByteArray.size_append, p32_size]); omega
  have l2 : ¬ 9223372036854775807 < (x.host ++ x.mail ++ (p32 x.s0)).size + (p32 x.s1).size := by (try simp only [ByteArray.size_append, p32_size]); omega
  have l3 : ¬ 9223372036854775807 < (x.host ++ x.mail ++ (p32 x.s0) ++ (p32 x.s1)).size + (p32 x.s2).size := by (try simp only [ByteArray.size_append, p32_size]); omega
  have l4 : ¬ 9223372036854775807 < (x.host ++ x.mail ++ (p32 x.s0) ++ (p32 x.s1) ++ (p32 x.s2)).size + (p32 x.s3).size := by (try simp only [ByteArray.size_append, p32_size]); omega
  clear g0 g1 g2 g3 hx gb e1 e2 e3 hz hy
  unfold Soa.val
  go_enter Try.func35, Try.ntmps35
  go_wp2_with fail
  refine (may x.host _).mono ?_
  rintro e w1 ⟨rfl, hb1⟩
  rw [hn]
  have c0 : w1.cell? ⟨w.heap.size, 0, none⟩ = some (.string x.host) := bcell hb1 (by go_simp)
  have c1 : w1.cell? ⟨w.heap.size, 1, none⟩ = some (.string x.mail) := bcell hb1 (by go_simp)
  have c2 : w1.cell? ⟨w.heap.size, 2, none⟩ = some (.int .i64 x.s0) := bcell hb1 (by go_simp)
  have c3 : w1.cell? ⟨w.heap.size, 3, none⟩ = some (.int .i64 x.s1) := bcell hb1 (by go_simp)
  have c4 : w1.cell? ⟨w.heap.size, 4, none⟩ = some (.int .i64 x.s2) := bcell hb1 (by go_simp)
  have c5 : w1.cell? ⟨w.heap.size, 5, none⟩ = some (.int .i64 x.s3) := bcell hb1 (by go_simp)
  have c6 : w1.cell? ⟨w.heap.size, 6, none⟩ = some (.int .i64 x.s4) := bcell hb1 (by go_simp)
  have B1 := below_next (below_alloc (Below.refl w.heap.size w) _) hb1
  go_wp2_with fail
  refine (may x.mail _).mono ?_
  rintro e w2 ⟨rfl, hb2⟩
  rw [hm]
  replace c0 := bcell hb2 c0
  replace c1 := bcell hb2 c1
  replace c2 := bcell hb2 c2
  replace c3 := bcell hb2 c3
  replace c4 := bcell hb2 c4
  replace c5 := bcell hb2 c5
  replace c6 := bcell hb2 c6
  have B2 := below_next B1 hb2
  go_wp2_with fail
  refine (words w.heap.size _).mono ?_
  rintro e w3 ⟨rfl, hb3⟩
  replace c0 := bcell hb3 c0
  replace c1 := bcell hb3 c1
  replace c2 := bcell hb3 c2
  replace c3 := bcell hb3 c3
  replace c4 := bcell hb3 c4
  replace c5 := bcell hb3 c5
  replace c6 := bcell hb3 c6
  have B3 := below_next B2 hb3
  simp only [plc]
  have i0 := idx0
  have i1 := idx1
  have i2 := idx2
  have i3 := idx3
  have i4 := idx4
  go_wp2
  refine wp_loop_rounds 6 ?_
  rw [rounds_succ]
  go_wp2_with fail
  refine (put32 x.s0 _).mono ?_
  rintro e w4 ⟨rfl, hb4⟩
  replace c2 := bcell hb4 c2
  replace c3 := bcell hb4 c3
  replace c4 := bcell hb4 c4
  replace c5 := bcell hb4 c5
  replace c6 := bcell hb4 c6
  have B4 := below_next B3 hb4
  go_wp2
  rw [rounds_succ]
  go_wp2_with fail
  refine (put32 x.s1 _).mono ?_
  rintro e w5 ⟨rfl, hb5⟩
  replace c2 := bcell hb5 c2
  replace c3 := bcell hb5 c3
  replace c4 := bcell hb5 c4
  replace c5 := bcell hb5 c5
  replace c6 := bcell hb5 c6
  have B5 := below_next B4 hb5
  go_wp2
  rw [rounds_succ]
  go_wp2_with fail
  refine (put32 x.s2 _).mono ?_
  rintro e w6 ⟨rfl, hb6⟩
  replace c2 := bcell hb6 c2
  replace c3 := bcell hb6 c3
  replace c4 := bcell hb6 c4
  replace c5 := bcell hb6 c5
  replace c6 := bcell hb6 c6
  have B6 := below_next B5 hb6
  go_wp2
  rw [rounds_succ]
  go_wp2_with fail
  refine (put32 x.s3 _).mono ?_
  rintro e w7 ⟨rfl, hb7⟩
  replace c2 := bcell hb7 c2
  replace c3 := bcell hb7 c3
  replace c4 := bcell hb7 c4
  replace c5 := bcell hb7 c5
  replace c6 := bcell hb7 c6
  have B7 := below_next B6 hb7
  go_wp2
  rw [rounds_succ]
  go_wp2
  go_ret2
  exact ⟨rfl, B7⟩

set_option maxRecDepth 100000 in
set_option maxHeartbeats 2000000 in
theorem soaHi4 (x : Soa) (w : World) (hn : nameB x.host = true) (hm : nameB x.mail = true) (g0 : wideB x.s0 = true) (g1 : wideB x.s1 = true) (g2 : wideB x.s2 = true) (g3 : wideB x.s3 = true) (gb : wideB x.s4 = false) (hx : 4294967295 < x.s4) : Calls Try.prog 35 #[x.val] w fun e w' => e = ans x.S x.E ∧ Below w.heap.size w w' := by
  have e1 : x.ok = false := by unfold Soa.ok; rw [hn, hm, g0, g1, g2, g3, gb]; simp
  have e2 : x.S = emp := by unfold Soa.S; rw [e1]; rfl
  have e3 : x.E = 400 := by unfold Soa.E; rw [e1]; rfl
  unfold ans
  rw [e2, e3]
  have a0 : decide (x.s0 < 0) = false := decide_eq_false (by have := wideB_iff.1 g0; omega)
  have b0 : decide (4294967295 < x.s0) = false := decide_eq_false (by have := wideB_iff.1 g0; omega)
  have a1 : decide (x.s1 < 0) = false := decide_eq_false (by have := wideB_iff.1 g1; omega)
  have b1 : decide (4294967295 < x.s1) = false := decide_eq_false (by have := wideB_iff.1 g1; omega)
  have a2 : decide (x.s2 < 0) = false := decide_eq_false (by have := wideB_iff.1 g2; omega)
  have b2 : decide (4294967295 < x.s2) = false := decide_eq_false (by have := wideB_iff.1 g2; omega)
  have a3 : decide (x.s3 < 0) = false := decide_eq_false (by have := wideB_iff.1 g3; omega)
  have b3 : decide (4294967295 < x.s3) = false := decide_eq_false (by have := wideB_iff.1 g3; omega)
  have a4 : decide (x.s4 < 0) = false := decide_eq_false (by omega)
  have b4 : decide (4294967295 < x.s4) = true := decide_eq_true hx
  have hz := nameB_size hn
  have hy := nameB_size hm
  have l0 : ¬ 9223372036854775807 < (x.host).size + x.mail.size := by (try simp only [ByteArray.size_append, p32_size]); omega
  have l1 : ¬ 9223372036854775807 < (x.host ++ x.mail).size + (p32 x.s0).size := by (try simp only [ByteArray.size_append, p32_size]); omega
  have l2 : ¬ 9223372036854775807 < (x.host ++ x.mail ++ (p32 x.s0)).size + (p32 x.s1).size := by (try simp only [ByteArray.size_append, p32_size]); omega
  have l3 : ¬ 9223372036854775807 < (x.host ++ x.mail ++ (p32 x.s0) ++ (p32 x.s1)).size + (p32 x.s2).size := by (try simp only [ByteArray.size_append, p32_size]); omega
  have l4 : ¬ 9223372036854775807 < (x.host ++ x.mail ++ (p32 x.s0) ++ (p32 x.s1) ++ (p32 x.s2)).size + (p32 x.s3).size := by (try simp only [ByteArray.size_append, p32_size]); omega
  clear g0 g1 g2 g3 hx gb e1 e2 e3 hz hy
  unfold Soa.val
  go_enter Try.func35, Try.ntmps35
  go_wp2_with fail
  refine (may x.host _).mono ?_
  rintro e w1 ⟨rfl, hb1⟩
  rw [hn]
  have c0 : w1.cell? ⟨w.heap.size, 0, none⟩ = some (.string x.host) := bcell hb1 (by go_simp)
  have c1 : w1.cell? ⟨w.heap.size, 1, none⟩ = some (.string x.mail) := bcell hb1 (by go_simp)
  have c2 : w1.cell? ⟨w.heap.size, 2, none⟩ = some (.int .i64 x.s0) := bcell hb1 (by go_simp)
  have c3 : w1.cell? ⟨w.heap.size, 3, none⟩ = some (.int .i64 x.s1) := bcell hb1 (by go_simp)
  have c4 : w1.cell? ⟨w.heap.size, 4, none⟩ = some (.int .i64 x.s2) := bcell hb1 (by go_simp)
  have c5 : w1.cell? ⟨w.heap.size, 5, none⟩ = some (.int .i64 x.s3) := bcell hb1 (by go_simp)
  have c6 : w1.cell? ⟨w.heap.size, 6, none⟩ = some (.int .i64 x.s4) := bcell hb1 (by go_simp)
  have B1 := below_next (below_alloc (Below.refl w.heap.size w) _) hb1
  go_wp2_with fail
  refine (may x.mail _).mono ?_
  rintro e w2 ⟨rfl, hb2⟩
  rw [hm]
  replace c0 := bcell hb2 c0
  replace c1 := bcell hb2 c1
  replace c2 := bcell hb2 c2
  replace c3 := bcell hb2 c3
  replace c4 := bcell hb2 c4
  replace c5 := bcell hb2 c5
  replace c6 := bcell hb2 c6
  have B2 := below_next B1 hb2
  go_wp2_with fail
  refine (words w.heap.size _).mono ?_
  rintro e w3 ⟨rfl, hb3⟩
  replace c0 := bcell hb3 c0
  replace c1 := bcell hb3 c1
  replace c2 := bcell hb3 c2
  replace c3 := bcell hb3 c3
  replace c4 := bcell hb3 c4
  replace c5 := bcell hb3 c5
  replace c6 := bcell hb3 c6
  have B3 := below_next B2 hb3
  simp only [plc]
  have i0 := idx0
  have i1 := idx1
  have i2 := idx2
  have i3 := idx3
  have i4 := idx4
  go_wp2
  refine wp_loop_rounds 6 ?_
  rw [rounds_succ]
  go_wp2_with fail
  refine (put32 x.s0 _).mono ?_
  rintro e w4 ⟨rfl, hb4⟩
  replace c2 := bcell hb4 c2
  replace c3 := bcell hb4 c3
  replace c4 := bcell hb4 c4
  replace c5 := bcell hb4 c5
  replace c6 := bcell hb4 c6
  have B4 := below_next B3 hb4
  go_wp2
  rw [rounds_succ]
  go_wp2_with fail
  refine (put32 x.s1 _).mono ?_
  rintro e w5 ⟨rfl, hb5⟩
  replace c2 := bcell hb5 c2
  replace c3 := bcell hb5 c3
  replace c4 := bcell hb5 c4
  replace c5 := bcell hb5 c5
  replace c6 := bcell hb5 c6
  have B5 := below_next B4 hb5
  go_wp2
  rw [rounds_succ]
  go_wp2_with fail
  refine (put32 x.s2 _).mono ?_
  rintro e w6 ⟨rfl, hb6⟩
  replace c2 := bcell hb6 c2
  replace c3 := bcell hb6 c3
  replace c4 := bcell hb6 c4
  replace c5 := bcell hb6 c5
  replace c6 := bcell hb6 c6
  have B6 := below_next B5 hb6
  go_wp2
  rw [rounds_succ]
  go_wp2_with fail
  refine (put32 x.s3 _).mono ?_
  rintro e w7 ⟨rfl, hb7⟩
  replace c2 := bcell hb7 c2
  replace c3 := bcell hb7 c3
  replace c4 := bcell hb7 c4
  replace c5 := bcell hb7 c5
  replace c6 := bcell hb7 c6
  have B7 := below_next B6 hb7
  go_wp2
  rw [rounds_succ]
  go_wp2
  go_ret2
  exact ⟨rfl, B7⟩

set_option maxRecDepth 100000 in
set_option maxHeartbeats 2000000 in
theorem soaNoHost (x : Soa) (w : World) (hn : nameB x.host = false) : Calls Try.prog 35 #[x.val] w fun e w' => e = ans x.S x.E ∧ Below w.heap.size w w' := by
  have e1 : x.ok = false := by unfold Soa.ok; rw [hn]; rfl
  have e2 : x.S = emp := by unfold Soa.S; rw [e1]; rfl
  have e3 : x.E = 400 := by unfold Soa.E; rw [e1]; rfl
  unfold ans
  rw [e2, e3]
  unfold Soa.val
  clear e1 e2 e3
  go_enter Try.func35, Try.ntmps35
  go_wp2_with fail
  refine (may x.host _).mono ?_
  rintro e w1 ⟨rfl, hb1⟩
  rw [hn]
  have B1 := below_next (below_alloc (Below.refl w.heap.size w) _) hb1
  go_wp2
  go_ret2
  exact ⟨rfl, B1⟩

set_option maxRecDepth 100000 in
set_option maxHeartbeats 2000000 in
theorem soaNoMail (x : Soa) (w : World) (hn : nameB x.host = true) (hm : nameB x.mail = false) : Calls Try.prog 35 #[x.val] w fun e w' => e = ans x.S x.E ∧ Below w.heap.size w w' := by
  have e1 : x.ok = false := by unfold Soa.ok; rw [hn, hm]; rfl
  have e2 : x.S = emp := by unfold Soa.S; rw [e1]; rfl
  have e3 : x.E = 400 := by unfold Soa.E; rw [e1]; rfl
  unfold ans
  rw [e2, e3]
  unfold Soa.val
  clear e1 e2 e3
  go_enter Try.func35, Try.ntmps35
  go_wp2_with fail
  refine (may x.host _).mono ?_
  rintro e w1 ⟨rfl, hb1⟩
  rw [hn]
  have c0 : w1.cell? ⟨w.heap.size, 0, none⟩ = some (.string x.host) := bcell hb1 (by go_simp)
  have c1 : w1.cell? ⟨w.heap.size, 1, none⟩ = some (.string x.mail) := bcell hb1 (by go_simp)
  have c2 : w1.cell? ⟨w.heap.size, 2, none⟩ = some (.int .i64 x.s0) := bcell hb1 (by go_simp)
  have c3 : w1.cell? ⟨w.heap.size, 3, none⟩ = some (.int .i64 x.s1) := bcell hb1 (by go_simp)
  have c4 : w1.cell? ⟨w.heap.size, 4, none⟩ = some (.int .i64 x.s2) := bcell hb1 (by go_simp)
  have c5 : w1.cell? ⟨w.heap.size, 5, none⟩ = some (.int .i64 x.s3) := bcell hb1 (by go_simp)
  have c6 : w1.cell? ⟨w.heap.size, 6, none⟩ = some (.int .i64 x.s4) := bcell hb1 (by go_simp)
  have B1 := below_next (below_alloc (Below.refl w.heap.size w) _) hb1
  go_wp2_with fail
  refine (may x.mail _).mono ?_
  rintro e w2 ⟨rfl, hb2⟩
  rw [hm]
  have B2 := below_next B1 hb2
  go_wp2
  go_ret2
  exact ⟨rfl, B2⟩

theorem soac (x : Soa) (w : World) : Calls Try.prog 35 #[x.val] w fun e w' => e = ans x.S x.E ∧ Below w.heap.size w w' := by
  cases hn : nameB x.host with
  | false => exact soaNoHost x w hn
  | true =>
  cases hm : nameB x.mail with
  | false => exact soaNoMail x w hn hm
  | true =>
  cases g0 : wideB x.s0 with
  | false =>
    by_cases hx : x.s0 < 0
    · exact soaLo0 x w hn hm  g0 hx
    · exact soaHi0 x w hn hm  g0 (by have := mt wideB_iff.2 (by rw [g0]; simp); omega)
  | true =>
  cases g1 : wideB x.s1 with
  | false =>
    by_cases hx : x.s1 < 0
    · exact soaLo1 x w hn hm g0 g1 hx
    · exact soaHi1 x w hn hm g0 g1 (by have := mt wideB_iff.2 (by rw [g1]; simp); omega)
  | true =>
  cases g2 : wideB x.s2 with
  | false =>
    by_cases hx : x.s2 < 0
    · exact soaLo2 x w hn hm g0 g1 g2 hx
    · exact soaHi2 x w hn hm g0 g1 g2 (by have := mt wideB_iff.2 (by rw [g2]; simp); omega)
  | true =>
  cases g3 : wideB x.s3 with
  | false =>
    by_cases hx : x.s3 < 0
    · exact soaLo3 x w hn hm g0 g1 g2 g3 hx
    · exact soaHi3 x w hn hm g0 g1 g2 g3 (by have := mt wideB_iff.2 (by rw [g3]; simp); omega)
  | true =>
  cases g4 : wideB x.s4 with
  | false =>
    by_cases hx : x.s4 < 0
    · exact soaLo4 x w hn hm g0 g1 g2 g3 g4 hx
    · exact soaHi4 x w hn hm g0 g1 g2 g3 g4 (by have := mt wideB_iff.2 (by rw [g4]; simp); omega)
  | true =>
  exact soaYes x w hn hm g0 g1 g2 g3 g4
end Go.Proofs.Ytndcjleadggibaa.Rd

namespace Go.Proofs.Ytndcjleadggibaa.Rd
open Go.RowKit Go.PlainAid Go.Proofs.Ytndcjleadggibaa.Base Go.Proofs.Ytndcjleadggibaa.Oct Go.Proofs.Ytndcjleadggibaa.Sl Go.Proofs.Ytndcjleadggibaa.Nm
set_option linter.unusedVariables false

def soa0 : Soa := ⟨emp, emp, 0, 0, 0, 0, 0⟩
/-- Where the two names end. -/
def eA (s : ByteArray) : Nat := (endN s 0).toNat
def eB (s : ByteArray) : Nat := (endN s (eA s)).toNat
def soaOf (s : ByteArray) : Soa := ⟨s.extract 0 (eA s), s.extract (eA s) (eB s), be4 s (eB s), be4 s (eB s + 4), be4 s (eB s + 8), be4 s (eB s + 12), be4 s (eB s + 16)⟩
def unX (s : ByteArray) : Soa := if mayD 6 s then soaOf s else soa0
def unE (s : ByteArray) : Int := if mayD 6 s then 0 else 400
theorem may6 {s : ByteArray} (h : mayD 6 s = true) : endN s 0 = eA s ∧ endN s (eA s) = eB s ∧ s.size = eB s + 20 ∧ eA s ≤ eB s ∧ s.size ≤ 65535 := by
  by_cases h3 : 65535 < s.size
  · unfold mayD at h; rw [if_neg (by decide), if_neg (by decide), if_pos h3] at h; cases h
  · rw [mayD_body (by decide) (by decide) h3] at h
    simp [soaB] at h
    obtain ⟨h0, h1, h2⟩ := h
    have := @endN_bd s _ h1
    unfold eB eA
    omega

theorem bfroz {w w1 : World} (h : Below w.heap.size w w1) {a : Addr} {v : Value} (hc : w.cell? a = some v) (hf : w.frozen? a = false) : w1.frozen? a = false := (h.frozen (World.block_lt_of_cell? w a hc)).trans hf

theorem below_set {B b k : Nat} {w W : World} {u : Value} (h : Below B w W) (hb : B ≤ b) : Below B w (W.setCell ⟨b, k, none⟩ u) := h.setCell (p := ⟨b, k, none⟩) hb u

theorem u32e (s : ByteArray) (i : Nat) (j : Int) (hj : j = i) (w : World) (hs : s.size ≤ 9223372036854775000) (h : i + 4 ≤ s.size) : Calls Try.prog 56 #[.string s, .int .i64 j] w fun e w' => e = .returned (.tuple #[.int .i64 (be4 s i), .int .i64 ((i + 4 : Nat) : Int), .int .i64 0]) ∧ w = w' := by
  subst hj
  have := u32 s i w hs h
  simpa using this

set_option maxRecDepth 100000 in
set_option maxHeartbeats 4000000 in
theorem unsoaNo (s : ByteArray) (w : World) (hs : s.size ≤ 9223372036854775000) (h : mayD 6 s = false) : Calls Try.prog 37 #[.string s] w fun e w' => e = .returned (.tuple #[soa0.val, .int .i64 400]) ∧ Below w.heap.size w w' := by
  go_enter Try.func37, Try.ntmps37
  go_wp2_with fail
  refine (dmay 6 s _ hs).mono ?_
  rintro e w1 ⟨rfl, hb1⟩
  rw [h]
  have c0 : w1.cell? ⟨w.heap.size, 0, none⟩ = some (.string ⟨#[]⟩) := bcell hb1 (by go_simp)
  have cf0 : w1.frozen? ⟨w.heap.size, 0, none⟩ = false := bfroz (v := .string ⟨#[]⟩) hb1 (by go_simp) (by go_simp)
  have c1 : w1.cell? ⟨w.heap.size, 1, none⟩ = some (.string ⟨#[]⟩) := bcell hb1 (by go_simp)
  have cf1 : w1.frozen? ⟨w.heap.size, 1, none⟩ = false := bfroz (v := .string ⟨#[]⟩) hb1 (by go_simp) (by go_simp)
  have c2 : w1.cell? ⟨w.heap.size, 2, none⟩ = some (.int .i64 0) := bcell hb1 (by go_simp)
  have cf2 : w1.frozen? ⟨w.heap.size, 2, none⟩ = false := bfroz (v := .int .i64 0) hb1 (by go_simp) (by go_simp)
  have c3 : w1.cell? ⟨w.heap.size, 3, none⟩ = some (.int .i64 0) := bcell hb1 (by go_simp)
  have cf3 : w1.frozen? ⟨w.heap.size, 3, none⟩ = false := bfroz (v := .int .i64 0) hb1 (by go_simp) (by go_simp)
  have c4 : w1.cell? ⟨w.heap.size, 4, none⟩ = some (.int .i64 0) := bcell hb1 (by go_simp)
  have cf4 : w1.frozen? ⟨w.heap.size, 4, none⟩ = false := bfroz (v := .int .i64 0) hb1 (by go_simp) (by go_simp)
  have c5 : w1.cell? ⟨w.heap.size, 5, none⟩ = some (.int .i64 0) := bcell hb1 (by go_simp)
  have cf5 : w1.frozen? ⟨w.heap.size, 5, none⟩ = false := bfroz (v := .int .i64 0) hb1 (by go_simp) (by go_simp)
  have c6 : w1.cell? ⟨w.heap.size, 6, none⟩ = some (.int .i64 0) := bcell hb1 (by go_simp)
  have cf6 : w1.frozen? ⟨w.heap.size, 6, none⟩ = false := bfroz (v := .int .i64 0) hb1 (by go_simp) (by go_simp)
  have B1 := below_next (below_alloc (Below.refl w.heap.size w) _) hb1
  go_wp2
  exact bodyPost_ret (v := .tuple #[soa0.val, .int .i64 400]) (by simp [results, Try.results37, go_sem, soa0, Soa.val, emp, c0, c1, c2, c3, c4, c5, c6]) rfl ⟨rfl, (by with_reducible repeat (first | exact B1 | refine below_set ?_ (Nat.le_refl _)))⟩

set_option maxRecDepth 100000 in
set_option maxHeartbeats 4000000 in
theorem unsoaYes (s : ByteArray) (w : World) (hs : s.size ≤ 9223372036854775000) (h : mayD 6 s = true) : Calls Try.prog 37 #[.string s] w fun e w' => e = .returned (.tuple #[(soaOf s).val, .int .i64 0]) ∧ Below w.heap.size w w' := by
  obtain ⟨hA, hB, hz, hAB, h6⟩ := may6 h
  have hsh := endN_shift s (eA s) (by omega)
  rw [if_neg (by omega), hB] at hsh
  obtain ⟨d, hd⟩ : ∃ d : Nat, (eB s : Int) - eA s = d := ⟨eB s - eA s, by omega⟩
  rw [hd] at hsh
  have hw : wrap64 ((eA s : Int) + d) = (eB s : Int) := by rw [w64 (by omega) (by omega)]; omega
  have hw2 : (eA s : Int) + d = (eB s : Int) := by omega
  have hle : eA s ≤ s.size := by omega
  have hsz : (s.extract (eA s) s.size).size ≤ 9223372036854775000 := by rw [ByteArray.size_extract]; omega
  have HZ := Lib.hid hz
  have HA := Lib.hid hAB
  have hlb : eB s ≤ s.size := by omega
  have e4 : ∀ k : Nat, k ≤ 16 → wrap64 ((eB s : Int) + k) = (eB s : Int) + k := fun k hk => w64 (by omega) (by omega)
  clear h6 hz hd
  go_enter Try.func37, Try.ntmps37
  go_wp2_with fail
  refine (dmay 6 s _ hs).mono ?_
  rintro e w1 ⟨rfl, hb1⟩
  rw [h]
  have c0 : w1.cell? ⟨w.heap.size, 0, none⟩ = some (.string ⟨#[]⟩) := bcell hb1 (by go_simp)
  have cf0 : w1.frozen? ⟨w.heap.size, 0, none⟩ = false := bfroz (v := .string ⟨#[]⟩) hb1 (by go_simp) (by go_simp)
  have c1 : w1.cell? ⟨w.heap.size, 1, none⟩ = some (.string ⟨#[]⟩) := bcell hb1 (by go_simp)
  have cf1 : w1.frozen? ⟨w.heap.size, 1, none⟩ = false := bfroz (v := .string ⟨#[]⟩) hb1 (by go_simp) (by go_simp)
  have c2 : w1.cell? ⟨w.heap.size, 2, none⟩ = some (.int .i64 0) := bcell hb1 (by go_simp)
  have cf2 : w1.frozen? ⟨w.heap.size, 2, none⟩ = false := bfroz (v := .int .i64 0) hb1 (by go_simp) (by go_simp)
  have c3 : w1.cell? ⟨w.heap.size, 3, none⟩ = some (.int .i64 0) := bcell hb1 (by go_simp)
  have cf3 : w1.frozen? ⟨w.heap.size, 3, none⟩ = false := bfroz (v := .int .i64 0) hb1 (by go_simp) (by go_simp)
  have c4 : w1.cell? ⟨w.heap.size, 4, none⟩ = some (.int .i64 0) := bcell hb1 (by go_simp)
  have cf4 : w1.frozen? ⟨w.heap.size, 4, none⟩ = false := bfroz (v := .int .i64 0) hb1 (by go_simp) (by go_simp)
  have c5 : w1.cell? ⟨w.heap.size, 5, none⟩ = some (.int .i64 0) := bcell hb1 (by go_simp)
  have cf5 : w1.frozen? ⟨w.heap.size, 5, none⟩ = false := bfroz (v := .int .i64 0) hb1 (by go_simp) (by go_simp)
  have c6 : w1.cell? ⟨w.heap.size, 6, none⟩ = some (.int .i64 0) := bcell hb1 (by go_simp)
  have cf6 : w1.frozen? ⟨w.heap.size, 6, none⟩ = false := bfroz (v := .int .i64 0) hb1 (by go_simp) (by go_simp)
  have B1 := below_next (below_alloc (Below.refl w.heap.size w) _) hb1
  have G1 : w.heap.size < w1.heap.size := World.block_lt_of_cell? w1 _ c0
  go_wp2_with fail
  refine (ends s _ hs).mono ?_
  rintro e w2 ⟨rfl, hb2⟩
  rw [hA]
  replace cf0 := bfroz hb2 c0 cf0
  replace c0 := bcell hb2 c0
  replace cf1 := bfroz hb2 c1 cf1
  replace c1 := bcell hb2 c1
  replace cf2 := bfroz hb2 c2 cf2
  replace c2 := bcell hb2 c2
  replace cf3 := bfroz hb2 c3 cf3
  replace c3 := bcell hb2 c3
  replace cf4 := bfroz hb2 c4 cf4
  replace c4 := bcell hb2 c4
  replace cf5 := bfroz hb2 c5 cf5
  replace c5 := bcell hb2 c5
  replace cf6 := bfroz hb2 c6 cf6
  replace c6 := bcell hb2 c6
  have B2 := below_next B1 hb2
  have hsl := slice_a s (eA s) hle w2
  go_wp2_with fail
  refine (ends _ _ hsz).mono ?_
  rintro e w3 ⟨rfl, hb3⟩
  rw [hsh]
  replace cf0 := bfroz hb3 c0 cf0
  replace c0 := bcell hb3 c0
  replace cf1 := bfroz hb3 c1 cf1
  replace c1 := bcell hb3 c1
  replace cf2 := bfroz hb3 c2 cf2
  replace c2 := bcell hb3 c2
  replace cf3 := bfroz hb3 c3 cf3
  replace c3 := bcell hb3 c3
  replace cf4 := bfroz hb3 c4 cf4
  replace c4 := bcell hb3 c4
  replace cf5 := bfroz hb3 c5 cf5
  replace c5 := bcell hb3 c5
  replace cf6 := bfroz hb3 c6 cf6
  replace c6 := bcell hb3 c6
  have B3 := below_next B2 hb3
  have G3 : w.heap.size < w3.heap.size := World.block_lt_of_cell? w3 _ c0
  have hs2 := slice_ab s (eA s) (eB s) hAB hlb
  have hs3 := slice_ab s 0 (eA s) (by omega) hle
  go_wp2
  go_region
  clear hs2 hs3 hsl
  go_wp2_with fail
  refine (words w3.heap.size _).mono ?_
  rintro e w4 ⟨rfl, hb4⟩
  have hb45 := below_next (below_drew (below_alloc (Below.refl w3.heap.size w3) _)) hb4
  replace cf0 := bfroz hb45 c0 cf0
  replace c0 := bcell hb45 c0
  replace cf1 := bfroz hb45 c1 cf1
  replace c1 := bcell hb45 c1
  replace cf2 := bfroz hb45 c2 cf2
  replace c2 := bcell hb45 c2
  replace cf3 := bfroz hb45 c3 cf3
  replace c3 := bcell hb45 c3
  replace cf4 := bfroz hb45 c4 cf4
  replace c4 := bcell hb45 c4
  replace cf5 := bfroz hb45 c5 cf5
  replace c5 := bcell hb45 c5
  replace cf6 := bfroz hb45 c6 cf6
  replace c6 := bcell hb45 c6
  have d0 : w4.cell? ⟨w3.heap.size, 0, none⟩ = some (.string (s.extract 0 (eA s))) := bcell hb4 (by go_simp)
  have df0 : w4.frozen? ⟨w3.heap.size, 0, none⟩ = false := bfroz (v := .string (s.extract 0 (eA s))) hb4 (by go_simp) (by go_simp)
  have d1 : w4.cell? ⟨w3.heap.size, 1, none⟩ = some (.string (s.extract (eA s) (eB s))) := bcell hb4 (by go_simp)
  have df1 : w4.frozen? ⟨w3.heap.size, 1, none⟩ = false := bfroz (v := .string (s.extract (eA s) (eB s))) hb4 (by go_simp) (by go_simp)
  have d2 : w4.cell? ⟨w3.heap.size, 2, none⟩ = some (.int .i64 0) := bcell hb4 (by go_simp)
  have df2 : w4.frozen? ⟨w3.heap.size, 2, none⟩ = false := bfroz (v := .int .i64 0) hb4 (by go_simp) (by go_simp)
  have d3 : w4.cell? ⟨w3.heap.size, 3, none⟩ = some (.int .i64 0) := bcell hb4 (by go_simp)
  have df3 : w4.frozen? ⟨w3.heap.size, 3, none⟩ = false := bfroz (v := .int .i64 0) hb4 (by go_simp) (by go_simp)
  have d4 : w4.cell? ⟨w3.heap.size, 4, none⟩ = some (.int .i64 0) := bcell hb4 (by go_simp)
  have df4 : w4.frozen? ⟨w3.heap.size, 4, none⟩ = false := bfroz (v := .int .i64 0) hb4 (by go_simp) (by go_simp)
  have d5 : w4.cell? ⟨w3.heap.size, 5, none⟩ = some (.int .i64 0) := bcell hb4 (by go_simp)
  have df5 : w4.frozen? ⟨w3.heap.size, 5, none⟩ = false := bfroz (v := .int .i64 0) hb4 (by go_simp) (by go_simp)
  have d6 : w4.cell? ⟨w3.heap.size, 6, none⟩ = some (.int .i64 0) := bcell hb4 (by go_simp)
  have df6 : w4.frozen? ⟨w3.heap.size, 6, none⟩ = false := bfroz (v := .int .i64 0) hb4 (by go_simp) (by go_simp)
  have B4 := below_next B3 hb45
  have G4 : w3.heap.size < w4.heap.size := World.block_lt_of_cell? w4 _ d0
  simp only [plc]
  have i0 := idx0
  have i1 := idx1
  have i2 := idx2
  have i3 := idx3
  have i4 := idx4
  go_wp2
  refine wp_loop_rounds 6 ?_
  rw [rounds_succ]
  go_wp2_with fail
  refine (u32e s (eB s + 0) _ (by first | rfl | omega) _ hs (by have := HZ.out; omega)).mono ?_
  rintro e w' ⟨rfl, rfl⟩
  go_wp2
  rw [rounds_succ]
  go_wp2_with fail
  refine (u32e s (eB s + 4) _ (by first | rfl | omega) _ hs (by have := HZ.out; omega)).mono ?_
  rintro e w' ⟨rfl, rfl⟩
  go_wp2
  rw [rounds_succ]
  go_wp2_with fail
  refine (u32e s (eB s + 8) _ (by first | rfl | omega) _ hs (by have := HZ.out; omega)).mono ?_
  rintro e w' ⟨rfl, rfl⟩
  go_wp2
  rw [rounds_succ]
  go_wp2_with fail
  refine (u32e s (eB s + 12) _ (by first | rfl | omega) _ hs (by have := HZ.out; omega)).mono ?_
  rintro e w' ⟨rfl, rfl⟩
  go_wp2
  rw [rounds_succ]
  go_wp2_with fail
  refine (u32e s (eB s + 16) _ (by first | rfl | omega) _ hs (by have := HZ.out; omega)).mono ?_
  rintro e w' ⟨rfl, rfl⟩
  go_wp2
  rw [rounds_succ]
  go_wp2
  exact bodyPost_ret (v := .tuple #[(soaOf s).val, .int .i64 0]) (by simp [results, Try.results37, go_sem, soaOf, Soa.val, c0, c1, c2, c3, c4, c5, c6]) rfl ⟨rfl, (by with_reducible repeat (first | exact B4 | refine below_set ?_ (Nat.le_refl _) | refine below_set ?_ (Nat.le_of_lt G3)))⟩
end Go.Proofs.Ytndcjleadggibaa.Rd

namespace Go.Proofs.Ytndcjleadggibaa.Rd
open Go.RowKit Go.PlainAid Go.Proofs.Ytndcjleadggibaa.Base Go.Proofs.Ytndcjleadggibaa.Oct Go.Proofs.Ytndcjleadggibaa.Sl Go.Proofs.Ytndcjleadggibaa.Nm
set_option linter.unusedVariables false

theorem unsoac (s : ByteArray) (w : World) (hs : s.size ≤ 9223372036854775000) : Calls Try.prog 37 #[.string s] w fun e w' => e = .returned (.tuple #[(unX s).val, .int .i64 (unE s)]) ∧ Below w.heap.size w w' := by
  unfold unX unE
  cases h : mayD 6 s with
  | true => exact unsoaYes s w hs h
  | false => exact unsoaNo s w hs h
end Go.Proofs.Ytndcjleadggibaa.Rd

namespace Go.Proofs.Ytndcjleadggibaa.Rd
open Go.RowKit Go.PlainAid Go.Proofs.Ytndcjleadggibaa.Base Go.Proofs.Ytndcjleadggibaa.Oct Go.Proofs.Ytndcjleadggibaa.Sl Go.Proofs.Ytndcjleadggibaa.Nm Go.Lib
set_option linter.unusedVariables false

/-- The texts' bytes. -/
def numsOf (s : ByteArray) : List Int := s.data.toList.map fun b => (b.toNat : Int)
def outN (ps : List ByteArray) : List Int := ps.flatMap fun p => (p.size : Int) :: numsOf p
def okT (ps : List ByteArray) : Bool := ps.all fun p => decide (p.size ≤ 255)
def u8cells (l : List Int) : List Value := l.map (Value.int .u8)
theorem info_u8 : (Try.prog.info? 5).map (fun i => (i.zero, i.size, i.bytes)) = some (some (.int .u8 0), 1, 1) := by kernel_rfl
structure TR (ps : List ByteArray) (w : World) (i : Nat) (v : Value) (wr : World) : Prop where
  own : wr.ownsRow w.heap.size 5 1 v (outN (ps.take i)).length (u8cells (outN (ps.take i)))
  bel : Below w.heap.size w wr
  ok : okT (ps.take i) = true
section
variable {P : Program} {ops : Array Oper} {rest : List Oper} {o : Oper} {a : Act} {Q : Exit → Act → World → Prop}
end

end Go.Proofs.Ytndcjleadggibaa.Rd

namespace Go.Proofs.Ytndcjleadggibaa.Rd
open Go.RowKit Go.PlainAid Go.Proofs.Ytndcjleadggibaa.Base Go.Proofs.Ytndcjleadggibaa.Oct Go.Proofs.Ytndcjleadggibaa.Sl Go.Proofs.Ytndcjleadggibaa.Nm Go.Lib
set_option linter.unusedVariables false

def sA : ByteArray := ⟨#[0, 0, 1, 2]⟩
def sM : ByteArray := ⟨#[0, 5, 1, 109, 0]⟩
def sH : ByteArray := ⟨#[1, 109, 0]⟩
def s0 : ByteArray := ⟨#[0]⟩
def sS : ByteArray := ⟨#[0, 0, 0, 0, 0, 0, 0, 0, 0, 0, 0, 0, 0, 0, 0, 0, 0, 0, 0, 0, 0, 7]⟩
def sT : ByteArray := ⟨#[2, 97, 98, 0]⟩
def xS : Soa := ⟨s0, s0, 0, 0, 0, 0, 7⟩
theorem aw_a : aS 258 = sA := by kernel_rfl
theorem aw_ae : aE 258 = 0 := by kernel_rfl
theorem aw_x : addrX sA = 258 := by kernel_rfl
theorem aw_xe : addrE sA = 0 := by kernel_rfl
theorem aw_n1 : nameB sH = true := by
  have b0 : bt sH 0 = 1 := by kernel_rfl
  have b2 : bt sH 2 = 0 := by kernel_rfl
  have z : sH.size = 3 := by kernel_rfl
  unfold nameB
  rw [nameAt_next (by omega) (by rw [b0]; decide) (by rw [b0]; decide), b0]
  rw [show 0 + 1 + (1 : Int).toNat = 2 from rfl, nameAt_end (by omega) b2, z]
  rfl
theorem aw_n0 : nameB s0 = true := by
  have b0 : bt s0 0 = 0 := by kernel_rfl
  have z : s0.size = 1 := by kernel_rfl
  unfold nameB
  rw [nameAt_end (by omega) b0, z]
  rfl
theorem aw_mb : mxB 5 sH = true := by unfold mxB; rw [aw_n1]; rfl
theorem aw_m : mxS 5 sH = sM := by unfold mxS; rw [aw_mb]; kernel_rfl
theorem aw_me : mxE 5 sH = 0 := by unfold mxE; rw [aw_mb]; rfl
theorem aw_e2 : sM.extract 2 sM.size = sH := by kernel_rfl
theorem aw_hm : mayD 15 sM = true := by
  rw [mayD_body (by decide) (by decide) (by decide), aw_e2, aw_n1]; kernel_rfl
theorem aw_hb : hostB 15 sM = true := by unfold hostB; rw [aw_hm]; rfl
theorem aw_h : hostS 15 sM = sH := by unfold hostS; rw [aw_hb, aw_e2]; rfl
theorem aw_he : hostE 15 sM = 0 := by unfold hostE; rw [aw_hb]; rfl
theorem aw_so : xS.ok = true := by
  unfold Soa.ok xS
  simp only
  rw [aw_n0]; kernel_rfl
theorem aw_s : xS.S = sS := by unfold Soa.S; rw [aw_so]; kernel_rfl
theorem aw_se : xS.E = 0 := by unfold Soa.E; rw [aw_so]; rfl
theorem aw_ea : endN sS 0 = 1 := by
  have b0 : bt sS 0 = 0 := by kernel_rfl
  rw [endN_of (i := 0) rfl (by decide) b0, show sS.extract 0 (0 + 1) = s0 by kernel_rfl, aw_n0]; rfl
theorem aw_eb : endN sS 1 = 2 := by
  have b0 : bt sS 1 = 0 := by kernel_rfl
  rw [endN_of (i := 1) rfl (by decide) b0, show sS.extract 1 (1 + 1) = s0 by kernel_rfl, aw_n0]; rfl
theorem aw_um : mayD 6 sS = true := by
  rw [mayD_body (by decide) (by decide) (by decide)]
  have : soaB sS = true := by unfold soaB; rw [aw_ea]; rw [show (1 : Int).toNat = 1 from rfl, aw_eb]; rfl
  rw [this]; rfl
theorem aw_u : unX sS = ⟨s0, s0, 0, 0, 0, 0, 7⟩ := by
  unfold unX
  rw [aw_um, if_pos rfl]
  unfold soaOf eB eA
  rw [aw_ea]
  rw [show (1 : Int).toNat = 1 from rfl, aw_eb]
  kernel_rfl
theorem aw_ue : unE sS = 0 := by unfold unE; rw [aw_um]; rfl
theorem aw_b : aS (-1) = emp := by kernel_rfl
theorem aw_be : aE (-1) = 400 := by kernel_rfl
theorem aw_m1 : mayD 1 sA = true := by rw [mayD_body (by decide) (by decide) (by decide)]; rfl
theorem aw_m2 : mayD 1 emp = false := by rw [mayD_body (by decide) (by decide) (by decide)]; rfl
theorem aw_m3 : mayD 0 emp = false := by unfold mayD; rfl

end Go.Proofs.Ytndcjleadggibaa.Rd

namespace Go.Proofs.Ytndcjleadggibaa.Pu
open Go.RowKit Go.Proofs.YtndcjleadggibaaW.PrintWords
set_option linter.unusedVariables false

/-! ### whole numbers -/
theorem wraps_i64 (n : Int) (h0 : 0 ≤ n) (h1 : n < 2 ^ 63) : IntKind.i64.wrap n = n := by
  rw [IntKind.wrap_i64]; omega
theorem and_mask (i : Nat) (hi : i ≤ 63) (x : Int) : Go.bits .and .i64 x (2 ^ i - 1) = x % 2 ^ i := by
  have hpos : 0 < 2 ^ i := Nat.two_pow_pos i
  have hle : 2 ^ i ≤ 2 ^ 63 := Nat.pow_le_pow_right (by decide) hi
  have hc : ((2 : Int) ^ i - 1) = ((2 ^ i - 1 : Nat) : Int) := by rw [Int.natCast_sub hpos]; simp
  have hm : (2 ^ i - 1) % 2 ^ 64 = 2 ^ i - 1 := Nat.mod_eq_of_lt (by omega)
  have hx : (BitVec.ofInt 64 x).toNat = (x % 18446744073709551616).toNat := by simp [BitVec.toNat_ofInt]
  have e : ((x % 18446744073709551616).toNat : Int) = x % 18446744073709551616 := by omega
  have hd : (2 : Int) ^ i ∣ 18446744073709551616 := by
    have : (18446744073709551616 : Int) = 2 ^ i * 2 ^ (64 - i) := by rw [← Int.pow_add]; rw [show i + (64 - i) = 64 by omega]; decide
    exact ⟨_, this⟩
  rw [hc]
  show IntKind.i64.wrap (((BitVec.ofInt 64 x &&& BitVec.ofInt 64 ((2 ^ i - 1 : Nat) : Int)).toNat : Nat) : Int) = _
  rw [BitVec.toNat_and, BitVec.ofInt_natCast, BitVec.toNat_ofNat, hm, hx, Nat.and_two_pow_sub_one_eq_mod]
  have e2 : (((x % 18446744073709551616).toNat % 2 ^ i : Nat) : Int) = x % 2 ^ i := by
    rw [Int.natCast_emod, e]; push_cast
    exact Int.emod_emod_of_dvd _ hd
  rw [e2]
  have h2 : (0 : Int) < 2 ^ i := by exact_mod_cast hpos
  have h3 : (2 : Int) ^ i ≤ 2 ^ 63 := by exact_mod_cast hle
  have := Int.emod_nonneg x (Int.ne_of_gt h2)
  have := Int.emod_lt_of_pos x h2
  exact wraps_i64 _ (by assumption) (by omega)
/-! ### lists -/
/-! ### strings as bytes -/
theorem data_length (s : ByteArray) : s.data.toList.length = s.size := by rw [Array.length_toList]; rfl
theorem ext_data {a b : ByteArray} (h : a.data.toList = b.data.toList) : a = b := ByteArray.ext (Array.ext' h)
theorem toList_data (s : ByteArray) : s.toList = s.data.toList := ByteArray.toList_eq s
/-! ### from some number of rounds on -/
section
variable {α β : Type} {r : α}
theorem Ev.pos {c : Prop} [Decidable c] {f g : Nat → Option α} (h : c) (k : Ev f r) : Ev (fun n => if c then f n else g n) r := by
  simp only [if_pos h]; exact k
theorem Ev.neg {c : Prop} [Decidable c] {f g : Nat → Option α} (h : ¬ c) (k : Ev g r) : Ev (fun n => if c then f n else g n) r := by
  simp only [if_neg h]; exact k
theorem Ev.some (f : Nat → Option α) (h : ∀ n, f n = some r) : Ev f r := ⟨0, fun n _ => h n⟩
/-- A call that needs no rounds. -/
theorem Ev.call {g : Option β} {f : Nat → β → Option α} {a : β} (h : g = Option.some a) (k : Ev (fun n => f n a) r) : Ev (fun n => g.bind (f n)) r := by
  subst h; exact k
end
end Go.Proofs.Ytndcjleadggibaa.Pu

namespace Go.Proofs.Ytndcjleadggibaa.PRz
open Go.RowKit Go.Proofs.YtndcjleadggibaaW.PrintWords Go.Proofs.YtndcjleadggibaaW.PrintLast Go.Proofs.YtndcjleadggibaaW.PrintMore
attribute [local go_sem] max2_int min2_int max_two min_two max_three min_three max_four min_four   -- for this text's walks alone
set_option linter.unusedVariables false
set_option linter.unusedSimpArgs false

def errW : Option Int → Value
  | none => .nilIface
  | some c => .iface 0 (.int .i64 c)
theorem errW_none : errW none = .nilIface := rfl
theorem errW_some (c : Int) : errW (some c) = .iface 0 (.int .i64 c) := rfl

theorem info5 : (Try.prog.info? 5).map (fun i => (i.zero, i.size, i.bytes)) = some (some (.int .u8 0), 1, 1) := by kernel_rfl
-- the values' own types

end Go.Proofs.Ytndcjleadggibaa.PRz

namespace Go.Proofs.Ytndcjleadggibaa.PRz
open Go.RowKit Go.Proofs.YtndcjleadggibaaW.PrintWords Go.Proofs.YtndcjleadggibaaW.PrintLast Go.Proofs.YtndcjleadggibaaW.PrintMore
attribute [local go_sem] max2_int min2_int max_two min_two max_three min_three max_four min_four   -- for this text's walks alone
set_option linter.unusedVariables false
set_option linter.unusedSimpArgs false

/-! ### wimplelaw0_Num: function 20 -/
def wimplelaw0_Num.f (a0 : Int) : Option (Int) := some a0
set_option maxHeartbeats 8000000 in
set_option maxRecDepth 100000 in
theorem wimplelaw0_Num.calls (a0 : Int) (r : Int) (w : World) (h : wimplelaw0_Num.f a0 = some r) :
    Calls Try.prog 20 #[.int .i64 a0] w fun e w' => e = .returned (.int .i64 r) ∧ Drawn0 w w' := by
  have H : (some a0) = some r := h
  clear h
  obtain rfl := Option.some.inj H
  go_enter Try.func20, Try.ntmps20
  go_wp2
  go_ret
  exact ⟨by first | rfl | (simp; done) | (simp [*]; done), by repeat (first | exact Drawn0.refl _ | apply Drawn0.step)⟩

/-! ### rdata_A: function 25 -/
def rdata_A.f (a0 : Int) : Option (ByteArray × Int) := some (Go.Proofs.Ytndcjleadggibaa.Rd.aS a0, Go.Proofs.Ytndcjleadggibaa.Rd.aE a0)
set_option maxHeartbeats 8000000 in
set_option maxRecDepth 100000 in
theorem rdata_A.calls (a0 : Int) (r1 : ByteArray) (r2 : Int) (w : World) (h : rdata_A.f a0 = some (r1, r2)) :
    Calls Try.prog 25 #[.int .i64 a0] w fun e w' => e = .returned (.tuple #[.string r1, .int .i64 r2]) ∧ Below w.heap.size w w' := by
  unfold rdata_A.f at h
  simp only [Option.some.injEq, Prod.mk.injEq] at h
  obtain ⟨rfl, rfl⟩ := h
  exact Go.Proofs.Ytndcjleadggibaa.Rd.ac a0 w

/-! ### wimpleref4_A: function 26 -/
/-! ### rdata_Addr: function 27 -/
def rdata_Addr.f (a0 : ByteArray) : Option (Int × Int) := if a0.size ≤ 9223372036854775000 then some (Go.Proofs.Ytndcjleadggibaa.Rd.addrX a0, Go.Proofs.Ytndcjleadggibaa.Rd.addrE a0) else none
set_option maxHeartbeats 8000000 in
set_option maxRecDepth 100000 in
theorem rdata_Addr.calls (a0 : ByteArray) (r1 : Int) (r2 : Int) (w : World) (h : rdata_Addr.f a0 = some (r1, r2)) :
    Calls Try.prog 27 #[.string a0] w fun e w' => e = .returned (.tuple #[.int .i64 r1, .int .i64 r2]) ∧ Below w.heap.size w w' := by
  unfold rdata_Addr.f at h
  split at h
  · rename_i hs
    simp only [Option.some.injEq, Prod.mk.injEq] at h
    obtain ⟨rfl, rfl⟩ := h
    exact Go.Proofs.Ytndcjleadggibaa.Rd.addrc a0 w hs
  · cases h

/-! ### wimpleref4_Addr: function 28 -/
-- NOT PRINTED: function 69 (name_Places)

/-! ### rdata_Mx: function 29 -/
def rdata_Mx.f (a0 : Int) (a1 : ByteArray) : Option (ByteArray × Int) := some (Go.Proofs.Ytndcjleadggibaa.Rd.mxS a0 a1, Go.Proofs.Ytndcjleadggibaa.Rd.mxE a0 a1)
set_option maxHeartbeats 8000000 in
set_option maxRecDepth 100000 in
theorem rdata_Mx.calls (a0 : Int) (a1 : ByteArray) (r1 : ByteArray) (r2 : Int) (w : World) (h : rdata_Mx.f a0 a1 = some (r1, r2)) :
    Calls Try.prog 29 #[.int .i64 a0, .string a1] w fun e w' => e = .returned (.tuple #[.string r1, .int .i64 r2]) ∧ Below w.heap.size w w' := by
  unfold rdata_Mx.f at h
  simp only [Option.some.injEq, Prod.mk.injEq] at h
  obtain ⟨rfl, rfl⟩ := h
  exact Go.Proofs.Ytndcjleadggibaa.Rd.mxc a0 a1 w

end Go.Proofs.Ytndcjleadggibaa.PRz

namespace Go.Proofs.Ytndcjleadggibaa.PRz
open Go.RowKit Go.Proofs.YtndcjleadggibaaW.PrintWords Go.Proofs.YtndcjleadggibaaW.PrintLast Go.Proofs.YtndcjleadggibaaW.PrintMore
attribute [local go_sem] max2_int min2_int max_two min_two max_three min_three max_four min_four   -- for this text's walks alone
set_option linter.unusedVariables false
set_option linter.unusedSimpArgs false

/-! ### wimpleref4_Mx: function 30 -/
/-! ### rdata_May: function 33 -/
def rdata_May.f (a0 : Int) (a1 : ByteArray) : Option (Bool) := if a1.size ≤ 9223372036854775000 then some (Go.Proofs.Ytndcjleadggibaa.Rd.mayD a0 a1) else none
set_option maxHeartbeats 8000000 in
set_option maxRecDepth 100000 in
theorem rdata_May.calls (a0 : Int) (a1 : ByteArray) (r : Bool) (w : World) (h : rdata_May.f a0 a1 = some r) :
    Calls Try.prog 33 #[.int .i64 a0, .string a1] w fun e w' => e = .returned (.bool r) ∧ Below w.heap.size w w' := by
  unfold rdata_May.f at h
  split at h
  · rename_i hs
    simp only [Option.some.injEq] at h
    subst h
    exact Go.Proofs.Ytndcjleadggibaa.Rd.dmay a0 a1 w hs
  · cases h

/-! ### rdata_Host: function 31 -/
def rdata_Host.f (a0 : Int) (a1 : ByteArray) : Option (ByteArray × Int) := if a1.size ≤ 9223372036854775000 then some (Go.Proofs.Ytndcjleadggibaa.Rd.hostS a0 a1, Go.Proofs.Ytndcjleadggibaa.Rd.hostE a0 a1) else none
set_option maxHeartbeats 8000000 in
set_option maxRecDepth 100000 in
theorem rdata_Host.calls (a0 : Int) (a1 : ByteArray) (r1 : ByteArray) (r2 : Int) (w : World) (h : rdata_Host.f a0 a1 = some (r1, r2)) :
    Calls Try.prog 31 #[.int .i64 a0, .string a1] w fun e w' => e = .returned (.tuple #[.string r1, .int .i64 r2]) ∧ Below w.heap.size w w' := by
  unfold rdata_Host.f at h
  split at h
  · rename_i hs
    simp only [Option.some.injEq, Prod.mk.injEq] at h
    obtain ⟨rfl, rfl⟩ := h
    exact Go.Proofs.Ytndcjleadggibaa.Rd.hostc a0 a1 w hs
  · cases h

end Go.Proofs.Ytndcjleadggibaa.PRz

namespace Go.Proofs.Ytndcjleadggibaa.PRz
open Go.RowKit Go.Proofs.YtndcjleadggibaaW.PrintWords Go.Proofs.YtndcjleadggibaaW.PrintLast Go.Proofs.YtndcjleadggibaaW.PrintMore
attribute [local go_sem] max2_int min2_int max_two min_two max_three min_three max_four min_four   -- for this text's walks alone
set_option linter.unusedVariables false
set_option linter.unusedSimpArgs false

/-! ### wimpleref4_DataMay: function 34 -/
/-! ### wimpleref4_Host: function 32 -/
-- NOT PRINTED: function 62 (rdata_words)

/-! ### rdata_Soa: function 35 -/
def rdata_Soa.f (a0_0 : ByteArray) (a0_1 : ByteArray) (a0_2 : Int) (a0_3 : Int) (a0_4 : Int) (a0_5 : Int) (a0_6 : Int) : Option (ByteArray × Int) := some ((⟨a0_0, a0_1, a0_2, a0_3, a0_4, a0_5, a0_6⟩ : Go.Proofs.Ytndcjleadggibaa.Rd.Soa).S, (⟨a0_0, a0_1, a0_2, a0_3, a0_4, a0_5, a0_6⟩ : Go.Proofs.Ytndcjleadggibaa.Rd.Soa).E)
set_option maxHeartbeats 8000000 in
set_option maxRecDepth 100000 in
theorem rdata_Soa.calls (a0_0 : ByteArray) (a0_1 : ByteArray) (a0_2 : Int) (a0_3 : Int) (a0_4 : Int) (a0_5 : Int) (a0_6 : Int) (r1 : ByteArray) (r2 : Int) (w : World) (h : rdata_Soa.f a0_0 a0_1 a0_2 a0_3 a0_4 a0_5 a0_6 = some (r1, r2)) :
    Calls Try.prog 35 #[.agg #[.string a0_0, .string a0_1, .int .i64 a0_2, .int .i64 a0_3, .int .i64 a0_4, .int .i64 a0_5, .int .i64 a0_6]] w fun e w' => e = .returned (.tuple #[.string r1, .int .i64 r2]) ∧ Below w.heap.size w w' := by
  unfold rdata_Soa.f at h
  simp only [Option.some.injEq, Prod.mk.injEq] at h
  obtain ⟨rfl, rfl⟩ := h
  exact Go.Proofs.Ytndcjleadggibaa.Rd.soac (⟨a0_0, a0_1, a0_2, a0_3, a0_4, a0_5, a0_6⟩ : Go.Proofs.Ytndcjleadggibaa.Rd.Soa) w

/-! ### wimpleref4_Soa: function 36 -/
/-! ### rdata_Unsoa: function 37 -/
def rdata_Unsoa.f (a0 : ByteArray) : Option (ByteArray × ByteArray × Int × Int × Int × Int × Int × Int) := if a0.size ≤ 9223372036854775000 then some ((Go.Proofs.Ytndcjleadggibaa.Rd.unX a0).host, (Go.Proofs.Ytndcjleadggibaa.Rd.unX a0).mail, (Go.Proofs.Ytndcjleadggibaa.Rd.unX a0).s0, (Go.Proofs.Ytndcjleadggibaa.Rd.unX a0).s1, (Go.Proofs.Ytndcjleadggibaa.Rd.unX a0).s2, (Go.Proofs.Ytndcjleadggibaa.Rd.unX a0).s3, (Go.Proofs.Ytndcjleadggibaa.Rd.unX a0).s4, Go.Proofs.Ytndcjleadggibaa.Rd.unE a0) else none
set_option maxHeartbeats 8000000 in
set_option maxRecDepth 100000 in
theorem rdata_Unsoa.calls (a0 : ByteArray) (r1 : ByteArray) (r2 : ByteArray) (r3 : Int) (r4 : Int) (r5 : Int) (r6 : Int) (r7 : Int) (r8 : Int) (w : World) (h : rdata_Unsoa.f a0 = some (r1, r2, r3, r4, r5, r6, r7, r8)) :
    Calls Try.prog 37 #[.string a0] w fun e w' => e = .returned (.tuple #[.agg #[.string r1, .string r2, .int .i64 r3, .int .i64 r4, .int .i64 r5, .int .i64 r6, .int .i64 r7], .int .i64 r8]) ∧ Below w.heap.size w w' := by
  unfold rdata_Unsoa.f at h
  split at h
  · rename_i hs
    simp only [Option.some.injEq, Prod.mk.injEq] at h
    obtain ⟨rfl, rfl, rfl, rfl, rfl, rfl, rfl, rfl⟩ := h
    exact Go.Proofs.Ytndcjleadggibaa.Rd.unsoac a0 w hs
  · cases h

/-! ### wimpleref4_Unsoa: function 38 -/
/-! ### wimplelaw0_CopyTexts: function 64 -/
/-! ### wimplelaw0_LendTexts: function 39 -/
/-! ### rdata_Txt: function 40 -/
def rdata_Txt.l0 : Nat → List ByteArray → List Int → List ByteArray → Int → Int → Option (ByteArray × Int)
  | 0, _, _, _, _, _ => none
  | k + 1, x0, x4, x7, x8, x9 => if x9 < x8 then (if 0 ≤ x9 then (if x9 < (x7.length : Int) then (if ((rdOf ByteArray.empty x7 x9).size : Int) > 255 then (some ((⟨#[]⟩ : ByteArray), 400)) else (if x4.length < 140737488355328 then ((some (x4 ++ [(((rdOf ByteArray.empty x7 x9).size : Int)) % 256] : List Int)).bind fun y139 => (if y139.length + (rdOf ByteArray.empty x7 x9).size < 140737488355328 then (rdata_Txt.l0 k x0 (y139 ++ bytesOf (rdOf ByteArray.empty x7 x9)) x7 x8 (wrap64 (x9 + 1))) else (none))) else (none))) else (none)) else (none)) else (if (x0.length : Int) = 0 then (some ((⟨#[]⟩ : ByteArray), 400)) else (if (x4.length : Int) > 65535 then (some ((⟨#[]⟩ : ByteArray), 400)) else (some (strOfNums x4, 0))))
def rdata_Txt.f (k : Nat) (l0 : List ByteArray) : Option (ByteArray × Int) := rdata_Txt.l0 k l0 ([] : List Int) l0 (l0.length : Int) 0
theorem rdata_Txt.mono_l : ∀ k, (∀ y0 y1 y2 y3 y4, LeO (rdata_Txt.l0 k y0 y1 y2 y3 y4) (rdata_Txt.l0 (k + 1) y0 y1 y2 y3 y4))
  | 0 => fun _ _ _ _ _ r h => by simp [rdata_Txt.l0] at h
  | k + 1 => by
    have ih0 := rdata_Txt.mono_l k
    · intro y0 y1 y2 y3 y4
      unfold rdata_Txt.l0
      repeat' first
      | (with_reducible exact ih0 _ _ _ _ _)
      | (with_reducible exact LeO.refl _)
      | (with_reducible exact LeO.none _)
      | (with_reducible refine LeO.ite ?_ ?_)
      | (with_reducible refine LeO.bind ?_ (fun _ => ?_))
      | exact ih0 _ _ _ _ _
      | exact LeO.none _
      | refine LeO.ite ?_ ?_
      | refine LeO.bind ?_ (fun _ => ?_)
theorem rdata_Txt.mono : ∀ a0 k, LeO (rdata_Txt.f k a0) (rdata_Txt.f (k + 1) a0) := by
  intro a0 k
  have ih0 := rdata_Txt.mono_l k
  unfold rdata_Txt.f
  repeat' first
      | (with_reducible exact ih0 _ _ _ _ _)
      | (with_reducible exact LeO.refl _)
      | (with_reducible exact LeO.none _)
      | (with_reducible refine LeO.ite ?_ ?_)
      | (with_reducible refine LeO.bind ?_ (fun _ => ?_))
      | exact ih0 _ _ _ _ _
      | exact LeO.none _
      | refine LeO.ite ?_ ?_
      | refine LeO.bind ?_ (fun _ => ?_)
set_option maxHeartbeats 8000000 in
set_option maxRecDepth 100000 in
theorem rdata_Txt.calls (k : Nat) (A0 : Option Addr) (c0 : Nat) (l0 : List ByteArray) (r1 : ByteArray) (r2 : Int) (w : World) (hr0 : Kd.C Kd.string w A0 l0.length l0) (hc0 : l0.length ≤ c0) (h : rdata_Txt.f k l0 = some (r1, r2)) :
    Calls Try.prog 40 #[.slice A0 l0.length c0] w fun e w' => e = .returned (.tuple #[.string r1, .int .i64 r2]) ∧ Below w.heap.size w w' := by
  have HR0 := Aside0.mk hr0
  have HC0 := Aside0.mk hc0
  clear hr0 hc0
  have HB := Aside0.mk (Below.refl w.heap.size w)
  have H : (rdata_Txt.l0 k l0 ([] : List Int) l0 (l0.length : Int) 0) = some (r1, r2) := h
  clear h
  have H' := Aside0.mk H
  clear H
  go_enter Try.func40, Try.ntmps40
  go_wp2
  go_loopg [4, 9] k (fun kq v4 v9 w' => ∃ (x4_1 : List Int) (x9_1 : Int), v9 = .int .i64 x9_1 ∧ Aside0 (rdata_Txt.l0 kq l0 x4_1 l0 (l0.length : Int) x9_1 = some (r1, r2)) ∧ Aside0 (kq ≤ k) ∧ Aside0 (Kd.R (Kd.int .u8) 5 w' w.heap.size (fun _ => True) v4 x4_1) ∧ Aside0 (Below w.heap.size w w'))
  case atStart => exact ⟨(([] : List Int)), (0), (by first | rfl | (simp; done) | (simp [*]; done)), H', ⟨Nat.le_refl _⟩, ⟨by first | exact Kd.R_nil _ _ _ _ _ | exact Kd.N_nil _ _ _ _ _ | exact Kd.V_nil _ _ _ _ _ | exact Kd.Q_nil _ _ _ _ _ | exact Kd.S_nil _ _ _ _ _⟩, ⟨by repeat (first | (with_reducible first | exact HB.out | apply below_alloc | apply pw_below_drewN | apply below_drew1) | exact HB.out)⟩⟩
  case round =>
    clear H'
    obtain ⟨x4_1, x9_1, rfl, HA, HK1, HO_4, HB⟩ := hrel
    cases gk with
    | zero => exact absurd HA.out (by simp [rdata_Txt.l0])
    | succ k1 =>
      have H := HA.out
      clear HA
      simp only [rdata_Txt.l0] at H
      by_cases c2 : x9_1 < (l0.length : Int)
      · rw [if_pos c2] at H
        have c2b0 : decide (x9_1 < (l0.length : Int)) = true := decide_eq_true c2
        clear c2
        by_cases c3 : 0 ≤ x9_1
        · rw [if_pos c3] at H
          have c3b0 : decide (0 ≤ x9_1) = true := decide_eq_true c3
          clear c3
          by_cases c4 : x9_1 < (l0.length : Int)
          · rw [if_pos c4] at H
            have c4b0 : decide (x9_1 < (l0.length : Int)) = true := decide_eq_true c4
            clear c4
            by_cases c5 : ((rdOf ByteArray.empty l0 x9_1).size : Int) > 255
            · rw [if_pos c5] at H
              have c5b0 : decide (255 < ((rdOf ByteArray.empty l0 x9_1).size : Int)) = true := decide_eq_true c5
              have c5b1 : decide (255 < (rdOf ByteArray.empty l0 x9_1).size) = true := decide_eq_true (by omega)
              clear c5
              simp only [Option.some.injEq, Prod.mk.injEq] at H
              obtain ⟨rfl, rfl⟩ := H
              have p138 : 0 ≤ (x9_1 : Int) := of_decide_eq_true (by first | (with_reducible assumption) | assumption)
              have q138 : x9_1 < (l0.length : Int) := of_decide_eq_true (by first | (with_reducible assumption) | assumption)
              obtain ⟨ad138, e138, hx138_0⟩ := Kd.at_string HR0.out x9_1 p138 q138
              cases e138
              replace hx138_0 := (HB.out.cell (World.block_lt_of_cell? w _ hx138_0)).trans hx138_0
              replace p138 := eq_true p138
              replace q138 := eq_true q138
              go_wp2
              go_ret2
              exact ⟨by first | rfl | (simp [errW_none, errW_some] <;> rfl) | (simp [*, errW_none, errW_some] <;> rfl), by repeat (first | (with_reducible first | exact HB.out | apply below_alloc | apply pw_below_drewN | apply below_drew1) | exact HB.out)⟩
            · rw [if_neg c5] at H
              have c5b0 : decide (255 < ((rdOf ByteArray.empty l0 x9_1).size : Int)) = false := decide_eq_false c5
              have c5b1 : decide (255 < (rdOf ByteArray.empty l0 x9_1).size) = false := decide_eq_false (by omega)
              clear c5
              by_cases c6 : x4_1.length < 140737488355328
              · rw [if_pos c6] at H
                have LMc6 := Aside0.mk c6
                clear c6
                obtain ⟨y139, hy139⟩ : ∃ y_ : List Int, y_ = (x4_1 ++ [(((rdOf ByteArray.empty l0 x9_1).size : Int)) % 256]) := ⟨_, rfl⟩
                replace H : (if y139.length + (rdOf ByteArray.empty l0 x9_1).size < 140737488355328 then (rdata_Txt.l0 k1 l0 (y139 ++ bytesOf (rdOf ByteArray.empty l0 x9_1)) l0 (l0.length : Int) (wrap64 (x9_1 + 1))) else (none)) = some (r1, r2) := by first | (rw [hy139]; with_reducible exact H) | (have H2_ := (Option.bind_some _ _).symm.trans H; rw [hy139]; with_reducible exact H2_) | (have H2_ := (Option.bind_some _ _).symm.trans H; with_reducible exact H2_) | with_reducible exact H | (rw [hy139]; exact H) | exact H
                have Ny139 := Aside0.mk hy139
                clear hy139
                by_cases c7 : y139.length + (rdOf ByteArray.empty l0 x9_1).size < 140737488355328
                · rw [if_pos c7] at H
                  have LMc7 := Aside0.mk c7
                  clear c7
                  obtain ⟨y142, hy142⟩ : ∃ y_ : List Int, y_ = (y139 ++ bytesOf (rdOf ByteArray.empty l0 x9_1)) := ⟨_, rfl⟩
                  replace H : (rdata_Txt.l0 k1 l0 y142 l0 (l0.length : Int) (wrap64 (x9_1 + 1))) = some (r1, r2) := by first | (rw [hy142]; with_reducible exact H) | (have H2_ := (Option.bind_some _ _).symm.trans H; rw [hy142]; with_reducible exact H2_) | (have H2_ := (Option.bind_some _ _).symm.trans H; with_reducible exact H2_) | with_reducible exact H | (rw [hy142]; exact H) | exact H
                  have Ny142 := Aside0.mk hy142
                  clear hy142
                  have H' := Aside0.mk H
                  clear H
                  have p138 : 0 ≤ (x9_1 : Int) := of_decide_eq_true (by first | (with_reducible assumption) | assumption)
                  have q138 : x9_1 < (l0.length : Int) := of_decide_eq_true (by first | (with_reducible assumption) | assumption)
                  obtain ⟨ad138, e138, hx138_0⟩ := Kd.at_string HR0.out x9_1 p138 q138
                  cases e138
                  replace hx138_0 := (HB.out.cell (World.block_lt_of_cell? w _ hx138_0)).trans hx138_0
                  replace p138 := eq_true p138
                  replace q138 := eq_true q138
                  go_wp2_with (first | ((with_reducible refine gate_builtin (b := .append) (xs := #[.tmp 16, .tmp 20]) rfl ?_); (try (refine gate_guard (by rfl) ?_; dsimp only)); at_builtin; refine Kd.R_append (Kd.int .u8) (w0 := w) w.heap.size rfl (.tmp 16) (.tmp 20) 54 5 (.int .u8 0) 1 rfl Try.underlying54 info5 rfl (by decide) (by omega) u4 x4_1 ((((rdOf ByteArray.empty l0 x9_1).size : Int)) % 256) [.int .u8 ((((rdOf ByteArray.empty l0 x9_1).size : Int)) % 256)] (fun _ => True) (fun _ => False) rfl rfl ?aP (fun _ hk => hk.elim) ?aF ?aO ?aB ?aS ?aL ?_; (case aP => exact rfl); (case aB => exact (by repeat (first | (with_reducible first | exact HB.out | apply below_alloc | apply pw_below_drewN | apply below_drew1) | exact HB.out))); (case aF => exact (fun _ _ => trivial)); (case aO => exact (by (with_reducible repeat (first | apply Kd.R_alloc | apply Kd.R_drewN | apply Kd.R_drew)); exact HO_4.out)); (case aS => exact (below_size (by repeat (first | (with_reducible first | exact HB.out | apply below_alloc | apply pw_below_drewN | apply below_drew1) | exact HB.out)))); (case aL => have := LMc6.out; omega); intro v140 w8 ho hb hg hat; rw [← Ny139.out] at ho; have n0_ := Aside0.mk (hb); have n1_ := Aside0.mk (ho); clear HB; clear HO_4; have HB := n0_; have HO141 := n1_; clear n0_ n1_; clear ho hb hg hat) | (at_builtin; refine print_append_str (w0 := w) w.heap.size rfl (.tmp 21) _ 54 9 5 rfl Try.underlying54 Try.underlying9 info5 v140 y139 (rdOf ByteArray.empty l0 x9_1) rfl rfl ?aO ?aB ?aS ?aL ?_; (case aB => exact (by repeat (first | (with_reducible first | exact HB.out | apply below_alloc | apply pw_below_drewN | apply below_drew1) | exact HB.out))); (case aO => exact (Kd.own_of_R (by (with_reducible repeat (first | apply Kd.R_alloc | apply Kd.R_drewN | apply Kd.R_drew)); exact HO141.out))); (case aS => exact (below_size (by repeat (first | (with_reducible first | exact HB.out | apply below_alloc | apply pw_below_drewN | apply below_drew1) | exact HB.out)))); (case aL => have := LMc7.out; omega); intro v143 w9 ho0 hb hg; have ho := Kd.R_of_own (h1 := fun _ => rfl) (ok := fun _ => True) ho0 (fun _ _ => trivial); clear ho0; have hat := True.intro; rw [← Ny142.out] at ho; change Kd.R (Kd.int .u8) 5 w9 w.heap.size (fun _ => True) v143 y142 at ho; have n0_ := Aside0.mk (hb); have n1_ := Aside0.mk (ho); clear HB; clear HO141; have HB := n0_; have HO144 := n1_; clear n0_ n1_; clear ho hb hg hat))
                  go_roundg k1
                  case measure => have := HK1.out; omega
                  case rel => exact ⟨(y142), (wrap64 (x9_1 + 1)), (by first | rfl | (simp; done) | (simp [*]; done)), H', ⟨by have := HK1.out; omega⟩, ⟨by (with_reducible repeat (first | apply Kd.R_alloc | apply Kd.R_drewN | apply Kd.R_drew)); exact HO144.out⟩, ⟨by repeat (first | (with_reducible first | exact HB.out | apply below_alloc | apply pw_below_drewN | apply below_drew1) | exact HB.out)⟩⟩
                · rw [if_neg c7] at H
                  exact absurd H (by simp)
              · rw [if_neg c6] at H
                exact absurd H (by simp)
          · rw [if_neg c4] at H
            exact absurd H (by simp)
        · rw [if_neg c3] at H
          exact absurd H (by simp)
      · rw [if_neg c2] at H
        have c2b0 : decide (x9_1 < (l0.length : Int)) = false := decide_eq_false c2
        clear c2
        by_cases c10 : (l0.length : Int) = 0
        · rw [if_pos c10] at H
          have c10b0 : ((l0.length : Int) == 0) = true := beq_iff_eq.mpr c10
          have c10b1 : ((l0.length : Int) != 0) = false := bne_eq_false_iff_eq.mpr c10
          clear c10
          simp only [Option.some.injEq, Prod.mk.injEq] at H
          obtain ⟨rfl, rfl⟩ := H
          go_wp2
          go_ret2
          exact ⟨by first | rfl | (simp [errW_none, errW_some] <;> rfl) | (simp [*, errW_none, errW_some] <;> rfl), by repeat (first | (with_reducible first | exact HB.out | apply below_alloc | apply pw_below_drewN | apply below_drew1) | exact HB.out)⟩
        · rw [if_neg c10] at H
          have c10b0 : ((l0.length : Int) == 0) = false := beq_eq_false_iff_ne.mpr c10
          have c10b1 : ((l0.length : Int) != 0) = true := bne_iff_ne.mpr c10
          have c10b2 : ¬ (l0 = []) := fun h_ => c10 (by rw [h_]; rfl)
          by_cases c11 : (x4_1.length : Int) > 65535
          · rw [if_pos c11] at H
            have c11b0 : decide (65535 < (x4_1.length : Int)) = true := decide_eq_true c11
            have c11b1 : decide (65535 < x4_1.length) = true := decide_eq_true (by omega)
            clear c11
            simp only [Option.some.injEq, Prod.mk.injEq] at H
            obtain ⟨rfl, rfl⟩ := H
            obtain ⟨Ao12, co12, eo12⟩ := Kd.R_slice HO_4.out
            subst eo12
            go_wp2
            go_ret2
            exact ⟨by first | rfl | (simp [errW_none, errW_some] <;> rfl) | (simp [*, errW_none, errW_some] <;> rfl), by repeat (first | (with_reducible first | exact HB.out | apply below_alloc | apply pw_below_drewN | apply below_drew1) | exact HB.out)⟩
          · rw [if_neg c11] at H
            have c11b0 : decide (65535 < (x4_1.length : Int)) = false := decide_eq_false c11
            have c11b1 : decide (65535 < x4_1.length) = false := decide_eq_false (by omega)
            clear c11
            simp only [Option.some.injEq, Prod.mk.injEq] at H
            obtain ⟨rfl, rfl⟩ := H
            obtain ⟨Ao13, co13, eo13⟩ := Kd.R_slice HO_4.out
            subst eo13
            have hcv14 := own_string (P := Try.prog) Try.underlying54 Try.underlying5 Try.underlying9 (Kd.own_of_R HO_4.out)
            go_wp2
            go_ret2
            exact ⟨by first | rfl | (simp [errW_none, errW_some] <;> rfl) | (simp [*, errW_none, errW_some] <;> rfl), by repeat (first | (with_reducible first | exact HB.out | apply below_alloc | apply pw_below_drewN | apply below_drew1) | exact HB.out)⟩

/-! ### wimpleref4_Txt: function 41 -/
/-! ### wimplelaw0_SameTexts: function 65 -/
end Go.Proofs.Ytndcjleadggibaa.PRz

namespace Go.Proofs.Ytndcjleadggibaa.PRz
open Go.RowKit Go.Proofs.YtndcjleadggibaaW.PrintWords Go.Proofs.YtndcjleadggibaaW.PrintLast Go.Proofs.YtndcjleadggibaaW.PrintMore
attribute [local go_sem] max2_int min2_int max_two min_two max_three min_three max_four min_four   -- for this text's walks alone
set_option linter.unusedVariables false
set_option linter.unusedSimpArgs false

theorem eqA59 (d : Nat) (w : World) (x0 y0 : ByteArray) (x1 y1 : ByteArray) (x2 y2 : Int) (x3 y3 : Int) (x4 y4 : Int) (x5 y5 : Int) (x6 y6 : Int) :
    (Op.equalIn (d + 2) 59 (.agg #[.string x0, .string x1, .int .i64 x2, .int .i64 x3, .int .i64 x4, .int .i64 x5, .int .i64 x6]) (.agg #[.string y0, .string y1, .int .i64 y2, .int .i64 y3, .int .i64 y4, .int .i64 y5, .int .i64 y6])).run Try.prog w = .ok (x0.toList == y0.toList && (x1.toList == y1.toList && (x2 == y2 && (x3 == y3 && (x4 == y4 && (x5 == y5 && (x6 == y6))))))) w := by
  refine eqA_of Try.underlying59 (by kernel_rfl) ?_
  refine eqf_cons (by rfl) (by go_simp; rfl) (by go_simp; rfl) (by go_simp) ?_
  refine eqf_cons (by rfl) (by go_simp; rfl) (by go_simp; rfl) (by go_simp) ?_
  refine eqf_cons (by rfl) (by go_simp; rfl) (by go_simp; rfl) (by go_simp) ?_
  refine eqf_cons (by rfl) (by go_simp; rfl) (by go_simp; rfl) (by go_simp) ?_
  refine eqf_cons (by rfl) (by go_simp; rfl) (by go_simp; rfl) (by go_simp) ?_
  refine eqf_cons (by rfl) (by go_simp; rfl) (by go_simp; rfl) (by go_simp) ?_
  exact eqf_last (by rfl) (by go_simp; rfl) (by go_simp; rfl) (by go_simp)
end Go.Proofs.Ytndcjleadggibaa.PRz

namespace Go.Proofs.Ytndcjleadggibaa.PRz
open Go.RowKit Go.Proofs.YtndcjleadggibaaW.PrintWords Go.Proofs.YtndcjleadggibaaW.PrintLast Go.Proofs.YtndcjleadggibaaW.PrintMore
attribute [local go_sem] max2_int min2_int max_two min_two max_three min_three max_four min_four   -- for this text's walks alone
set_option linter.unusedVariables false
set_option linter.unusedSimpArgs false

attribute [local go_sem high] eqA59
/-! ### wimplelaw4_awake: function 43 -/
def wimplelaw4_awake.f (k : Nat)  : Option (Bool) := (rdata_A.f 258).bind fun bt157 => ((rdata_Addr.f bt157.1).bind fun bt159 => ((rdata_Mx.f 5 (⟨#[1, 109, 0]⟩ : ByteArray)).bind fun bt161 => ((rdata_Host.f 15 bt161.1).bind fun bt163 => ((rdata_Soa.f (⟨#[0]⟩ : ByteArray) (⟨#[0]⟩ : ByteArray) 0 0 0 0 7).bind fun bt165 => ((rdata_Unsoa.f bt165.1).bind fun bt167 => ((rdata_Txt.f k (([(⟨#[97, 98]⟩ : ByteArray), (⟨#[]⟩ : ByteArray)] : List ByteArray))).bind fun bt179 => ((rdata_A.f (-1)).bind fun bt181 => (if bt157.1.toList = ([0, 0, 1, 2] : List UInt8) then ((wimplelaw0_Num.f bt157.2).bind fun t183 => (if t183 = 0 then (if bt159.1 = 258 then ((wimplelaw0_Num.f bt159.2).bind fun t184 => (if t184 = 0 then (if bt161.1.toList = ([0, 5, 1, 109, 0] : List UInt8) then ((wimplelaw0_Num.f bt161.2).bind fun t185 => (if t185 = 0 then (if bt163.1.toList = ([1, 109, 0] : List UInt8) then ((wimplelaw0_Num.f bt163.2).bind fun t186 => (if t186 = 0 then (if (bt165.1.size : Int) = 22 then ((wimplelaw0_Num.f bt165.2).bind fun t187 => (if t187 = 0 then (if bt167.2.2.2.2.2.2.1 = 7 then ((wimplelaw0_Num.f bt167.2.2.2.2.2.2.2).bind fun t188 => (if t188 = 0 then (if bt179.1.toList = ([2, 97, 98, 0] : List UInt8) then ((wimplelaw0_Num.f bt179.2).bind fun t189 => (if t189 = 0 then ((wimplelaw0_Num.f bt181.2).bind fun t190 => (if t190 = 400 then ((rdata_May.f 1 bt157.1).bind fun t191 => (if t191 = true then ((rdata_May.f 1 (⟨#[]⟩ : ByteArray)).bind fun t192 => (if t192 = true then (none) else ((rdata_May.f 0 (⟨#[]⟩ : ByteArray)).bind fun t193 => (some (!t193))))) else (none))) else (none))) else (none))) else (none)) else (none))) else (none)) else (none))) else (none)) else (none))) else (none)) else (none))) else (none)) else (none))) else (none)) else (none))) else (none)))))))))
set_option maxHeartbeats 8000000 in
set_option maxRecDepth 100000 in
theorem wimplelaw4_awake.calls (k : Nat)  (r : Bool) (w : World) (h : wimplelaw4_awake.f k  = some r) :
    Calls Try.prog 43 #[] w fun e w' => e = .returned (.bool r) ∧ Below w.heap.size w w' := by
  have hu59 := Try.underlying59
  have HB := Aside0.mk (Below.refl w.heap.size w)
  have H : ((rdata_A.f 258).bind fun bt157 => ((rdata_Addr.f bt157.1).bind fun bt159 => ((rdata_Mx.f 5 (⟨#[1, 109, 0]⟩ : ByteArray)).bind fun bt161 => ((rdata_Host.f 15 bt161.1).bind fun bt163 => ((rdata_Soa.f (⟨#[0]⟩ : ByteArray) (⟨#[0]⟩ : ByteArray) 0 0 0 0 7).bind fun bt165 => ((rdata_Unsoa.f bt165.1).bind fun bt167 => ((rdata_Txt.f k (([(⟨#[97, 98]⟩ : ByteArray), (⟨#[]⟩ : ByteArray)] : List ByteArray))).bind fun bt179 => ((rdata_A.f (-1)).bind fun bt181 => (if bt157.1.toList = ([0, 0, 1, 2] : List UInt8) then ((wimplelaw0_Num.f bt157.2).bind fun t183 => (if t183 = 0 then (if bt159.1 = 258 then ((wimplelaw0_Num.f bt159.2).bind fun t184 => (if t184 = 0 then (if bt161.1.toList = ([0, 5, 1, 109, 0] : List UInt8) then ((wimplelaw0_Num.f bt161.2).bind fun t185 => (if t185 = 0 then (if bt163.1.toList = ([1, 109, 0] : List UInt8) then ((wimplelaw0_Num.f bt163.2).bind fun t186 => (if t186 = 0 then (if (bt165.1.size : Int) = 22 then ((wimplelaw0_Num.f bt165.2).bind fun t187 => (if t187 = 0 then (if bt167.2.2.2.2.2.2.1 = 7 then ((wimplelaw0_Num.f bt167.2.2.2.2.2.2.2).bind fun t188 => (if t188 = 0 then (if bt179.1.toList = ([2, 97, 98, 0] : List UInt8) then ((wimplelaw0_Num.f bt179.2).bind fun t189 => (if t189 = 0 then ((wimplelaw0_Num.f bt181.2).bind fun t190 => (if t190 = 400 then ((rdata_May.f 1 bt157.1).bind fun t191 => (if t191 = true then ((rdata_May.f 1 (⟨#[]⟩ : ByteArray)).bind fun t192 => (if t192 = true then (none) else ((rdata_May.f 0 (⟨#[]⟩ : ByteArray)).bind fun t193 => (some (!t193))))) else (none))) else (none))) else (none))) else (none)) else (none))) else (none)) else (none))) else (none)) else (none))) else (none)) else (none))) else (none)) else (none))) else (none)) else (none))) else (none)))))))))) = some r := h
  clear h
  replace H := Option.bind_eq_some_iff.mp H
  obtain ⟨⟨t157, t158⟩, A10, H⟩ := H
  replace H : ((rdata_Addr.f t157).bind fun bt159 => ((rdata_Mx.f 5 (⟨#[1, 109, 0]⟩ : ByteArray)).bind fun bt161 => ((rdata_Host.f 15 bt161.1).bind fun bt163 => ((rdata_Soa.f (⟨#[0]⟩ : ByteArray) (⟨#[0]⟩ : ByteArray) 0 0 0 0 7).bind fun bt165 => ((rdata_Unsoa.f bt165.1).bind fun bt167 => ((rdata_Txt.f k (([(⟨#[97, 98]⟩ : ByteArray), (⟨#[]⟩ : ByteArray)] : List ByteArray))).bind fun bt179 => ((rdata_A.f (-1)).bind fun bt181 => (if t157.toList = ([0, 0, 1, 2] : List UInt8) then ((wimplelaw0_Num.f t158).bind fun t183 => (if t183 = 0 then (if bt159.1 = 258 then ((wimplelaw0_Num.f bt159.2).bind fun t184 => (if t184 = 0 then (if bt161.1.toList = ([0, 5, 1, 109, 0] : List UInt8) then ((wimplelaw0_Num.f bt161.2).bind fun t185 => (if t185 = 0 then (if bt163.1.toList = ([1, 109, 0] : List UInt8) then ((wimplelaw0_Num.f bt163.2).bind fun t186 => (if t186 = 0 then (if (bt165.1.size : Int) = 22 then ((wimplelaw0_Num.f bt165.2).bind fun t187 => (if t187 = 0 then (if bt167.2.2.2.2.2.2.1 = 7 then ((wimplelaw0_Num.f bt167.2.2.2.2.2.2.2).bind fun t188 => (if t188 = 0 then (if bt179.1.toList = ([2, 97, 98, 0] : List UInt8) then ((wimplelaw0_Num.f bt179.2).bind fun t189 => (if t189 = 0 then ((wimplelaw0_Num.f bt181.2).bind fun t190 => (if t190 = 400 then ((rdata_May.f 1 t157).bind fun t191 => (if t191 = true then ((rdata_May.f 1 (⟨#[]⟩ : ByteArray)).bind fun t192 => (if t192 = true then (none) else ((rdata_May.f 0 (⟨#[]⟩ : ByteArray)).bind fun t193 => (some (!t193))))) else (none))) else (none))) else (none))) else (none)) else (none))) else (none)) else (none))) else (none)) else (none))) else (none)) else (none))) else (none)) else (none))) else (none)) else (none))) else (none))))))))) = some r := H
  have A1 := Aside0.mk A10
  clear A10
  replace H := Option.bind_eq_some_iff.mp H
  obtain ⟨⟨t159, t160⟩, A20, H⟩ := H
  replace H : ((rdata_Mx.f 5 (⟨#[1, 109, 0]⟩ : ByteArray)).bind fun bt161 => ((rdata_Host.f 15 bt161.1).bind fun bt163 => ((rdata_Soa.f (⟨#[0]⟩ : ByteArray) (⟨#[0]⟩ : ByteArray) 0 0 0 0 7).bind fun bt165 => ((rdata_Unsoa.f bt165.1).bind fun bt167 => ((rdata_Txt.f k (([(⟨#[97, 98]⟩ : ByteArray), (⟨#[]⟩ : ByteArray)] : List ByteArray))).bind fun bt179 => ((rdata_A.f (-1)).bind fun bt181 => (if t157.toList = ([0, 0, 1, 2] : List UInt8) then ((wimplelaw0_Num.f t158).bind fun t183 => (if t183 = 0 then (if t159 = 258 then ((wimplelaw0_Num.f t160).bind fun t184 => (if t184 = 0 then (if bt161.1.toList = ([0, 5, 1, 109, 0] : List UInt8) then ((wimplelaw0_Num.f bt161.2).bind fun t185 => (if t185 = 0 then (if bt163.1.toList = ([1, 109, 0] : List UInt8) then ((wimplelaw0_Num.f bt163.2).bind fun t186 => (if t186 = 0 then (if (bt165.1.size : Int) = 22 then ((wimplelaw0_Num.f bt165.2).bind fun t187 => (if t187 = 0 then (if bt167.2.2.2.2.2.2.1 = 7 then ((wimplelaw0_Num.f bt167.2.2.2.2.2.2.2).bind fun t188 => (if t188 = 0 then (if bt179.1.toList = ([2, 97, 98, 0] : List UInt8) then ((wimplelaw0_Num.f bt179.2).bind fun t189 => (if t189 = 0 then ((wimplelaw0_Num.f bt181.2).bind fun t190 => (if t190 = 400 then ((rdata_May.f 1 t157).bind fun t191 => (if t191 = true then ((rdata_May.f 1 (⟨#[]⟩ : ByteArray)).bind fun t192 => (if t192 = true then (none) else ((rdata_May.f 0 (⟨#[]⟩ : ByteArray)).bind fun t193 => (some (!t193))))) else (none))) else (none))) else (none))) else (none)) else (none))) else (none)) else (none))) else (none)) else (none))) else (none)) else (none))) else (none)) else (none))) else (none)) else (none))) else (none)))))))) = some r := H
  have A2 := Aside0.mk A20
  clear A20
  replace H := Option.bind_eq_some_iff.mp H
  obtain ⟨⟨t161, t162⟩, A30, H⟩ := H
  replace H : ((rdata_Host.f 15 t161).bind fun bt163 => ((rdata_Soa.f (⟨#[0]⟩ : ByteArray) (⟨#[0]⟩ : ByteArray) 0 0 0 0 7).bind fun bt165 => ((rdata_Unsoa.f bt165.1).bind fun bt167 => ((rdata_Txt.f k (([(⟨#[97, 98]⟩ : ByteArray), (⟨#[]⟩ : ByteArray)] : List ByteArray))).bind fun bt179 => ((rdata_A.f (-1)).bind fun bt181 => (if t157.toList = ([0, 0, 1, 2] : List UInt8) then ((wimplelaw0_Num.f t158).bind fun t183 => (if t183 = 0 then (if t159 = 258 then ((wimplelaw0_Num.f t160).bind fun t184 => (if t184 = 0 then (if t161.toList = ([0, 5, 1, 109, 0] : List UInt8) then ((wimplelaw0_Num.f t162).bind fun t185 => (if t185 = 0 then (if bt163.1.toList = ([1, 109, 0] : List UInt8) then ((wimplelaw0_Num.f bt163.2).bind fun t186 => (if t186 = 0 then (if (bt165.1.size : Int) = 22 then ((wimplelaw0_Num.f bt165.2).bind fun t187 => (if t187 = 0 then (if bt167.2.2.2.2.2.2.1 = 7 then ((wimplelaw0_Num.f bt167.2.2.2.2.2.2.2).bind fun t188 => (if t188 = 0 then (if bt179.1.toList = ([2, 97, 98, 0] : List UInt8) then ((wimplelaw0_Num.f bt179.2).bind fun t189 => (if t189 = 0 then ((wimplelaw0_Num.f bt181.2).bind fun t190 => (if t190 = 400 then ((rdata_May.f 1 t157).bind fun t191 => (if t191 = true then ((rdata_May.f 1 (⟨#[]⟩ : ByteArray)).bind fun t192 => (if t192 = true then (none) else ((rdata_May.f 0 (⟨#[]⟩ : ByteArray)).bind fun t193 => (some (!t193))))) else (none))) else (none))) else (none))) else (none)) else (none))) else (none)) else (none))) else (none)) else (none))) else (none)) else (none))) else (none)) else (none))) else (none)) else (none))) else (none))))))) = some r := H
  have A3 := Aside0.mk A30
  clear A30
  replace H := Option.bind_eq_some_iff.mp H
  obtain ⟨⟨t163, t164⟩, A40, H⟩ := H
  replace H : ((rdata_Soa.f (⟨#[0]⟩ : ByteArray) (⟨#[0]⟩ : ByteArray) 0 0 0 0 7).bind fun bt165 => ((rdata_Unsoa.f bt165.1).bind fun bt167 => ((rdata_Txt.f k (([(⟨#[97, 98]⟩ : ByteArray), (⟨#[]⟩ : ByteArray)] : List ByteArray))).bind fun bt179 => ((rdata_A.f (-1)).bind fun bt181 => (if t157.toList = ([0, 0, 1, 2] : List UInt8) then ((wimplelaw0_Num.f t158).bind fun t183 => (if t183 = 0 then (if t159 = 258 then ((wimplelaw0_Num.f t160).bind fun t184 => (if t184 = 0 then (if t161.toList = ([0, 5, 1, 109, 0] : List UInt8) then ((wimplelaw0_Num.f t162).bind fun t185 => (if t185 = 0 then (if t163.toList = ([1, 109, 0] : List UInt8) then ((wimplelaw0_Num.f t164).bind fun t186 => (if t186 = 0 then (if (bt165.1.size : Int) = 22 then ((wimplelaw0_Num.f bt165.2).bind fun t187 => (if t187 = 0 then (if bt167.2.2.2.2.2.2.1 = 7 then ((wimplelaw0_Num.f bt167.2.2.2.2.2.2.2).bind fun t188 => (if t188 = 0 then (if bt179.1.toList = ([2, 97, 98, 0] : List UInt8) then ((wimplelaw0_Num.f bt179.2).bind fun t189 => (if t189 = 0 then ((wimplelaw0_Num.f bt181.2).bind fun t190 => (if t190 = 400 then ((rdata_May.f 1 t157).bind fun t191 => (if t191 = true then ((rdata_May.f 1 (⟨#[]⟩ : ByteArray)).bind fun t192 => (if t192 = true then (none) else ((rdata_May.f 0 (⟨#[]⟩ : ByteArray)).bind fun t193 => (some (!t193))))) else (none))) else (none))) else (none))) else (none)) else (none))) else (none)) else (none))) else (none)) else (none))) else (none)) else (none))) else (none)) else (none))) else (none)) else (none))) else (none)))))) = some r := H
  have A4 := Aside0.mk A40
  clear A40
  replace H := Option.bind_eq_some_iff.mp H
  obtain ⟨⟨t165, t166⟩, A50, H⟩ := H
  replace H : ((rdata_Unsoa.f t165).bind fun bt167 => ((rdata_Txt.f k (([(⟨#[97, 98]⟩ : ByteArray), (⟨#[]⟩ : ByteArray)] : List ByteArray))).bind fun bt179 => ((rdata_A.f (-1)).bind fun bt181 => (if t157.toList = ([0, 0, 1, 2] : List UInt8) then ((wimplelaw0_Num.f t158).bind fun t183 => (if t183 = 0 then (if t159 = 258 then ((wimplelaw0_Num.f t160).bind fun t184 => (if t184 = 0 then (if t161.toList = ([0, 5, 1, 109, 0] : List UInt8) then ((wimplelaw0_Num.f t162).bind fun t185 => (if t185 = 0 then (if t163.toList = ([1, 109, 0] : List UInt8) then ((wimplelaw0_Num.f t164).bind fun t186 => (if t186 = 0 then (if (t165.size : Int) = 22 then ((wimplelaw0_Num.f t166).bind fun t187 => (if t187 = 0 then (if bt167.2.2.2.2.2.2.1 = 7 then ((wimplelaw0_Num.f bt167.2.2.2.2.2.2.2).bind fun t188 => (if t188 = 0 then (if bt179.1.toList = ([2, 97, 98, 0] : List UInt8) then ((wimplelaw0_Num.f bt179.2).bind fun t189 => (if t189 = 0 then ((wimplelaw0_Num.f bt181.2).bind fun t190 => (if t190 = 400 then ((rdata_May.f 1 t157).bind fun t191 => (if t191 = true then ((rdata_May.f 1 (⟨#[]⟩ : ByteArray)).bind fun t192 => (if t192 = true then (none) else ((rdata_May.f 0 (⟨#[]⟩ : ByteArray)).bind fun t193 => (some (!t193))))) else (none))) else (none))) else (none))) else (none)) else (none))) else (none)) else (none))) else (none)) else (none))) else (none)) else (none))) else (none)) else (none))) else (none)) else (none))) else (none))))) = some r := H
  have A5 := Aside0.mk A50
  clear A50
  replace H := Option.bind_eq_some_iff.mp H
  obtain ⟨⟨t167, t168, t169, t170, t171, t172, t173, t174⟩, A60, H⟩ := H
  replace H : ((rdata_Txt.f k (([(⟨#[97, 98]⟩ : ByteArray), (⟨#[]⟩ : ByteArray)] : List ByteArray))).bind fun bt179 => ((rdata_A.f (-1)).bind fun bt181 => (if t157.toList = ([0, 0, 1, 2] : List UInt8) then ((wimplelaw0_Num.f t158).bind fun t183 => (if t183 = 0 then (if t159 = 258 then ((wimplelaw0_Num.f t160).bind fun t184 => (if t184 = 0 then (if t161.toList = ([0, 5, 1, 109, 0] : List UInt8) then ((wimplelaw0_Num.f t162).bind fun t185 => (if t185 = 0 then (if t163.toList = ([1, 109, 0] : List UInt8) then ((wimplelaw0_Num.f t164).bind fun t186 => (if t186 = 0 then (if (t165.size : Int) = 22 then ((wimplelaw0_Num.f t166).bind fun t187 => (if t187 = 0 then (if t173 = 7 then ((wimplelaw0_Num.f t174).bind fun t188 => (if t188 = 0 then (if bt179.1.toList = ([2, 97, 98, 0] : List UInt8) then ((wimplelaw0_Num.f bt179.2).bind fun t189 => (if t189 = 0 then ((wimplelaw0_Num.f bt181.2).bind fun t190 => (if t190 = 400 then ((rdata_May.f 1 t157).bind fun t191 => (if t191 = true then ((rdata_May.f 1 (⟨#[]⟩ : ByteArray)).bind fun t192 => (if t192 = true then (none) else ((rdata_May.f 0 (⟨#[]⟩ : ByteArray)).bind fun t193 => (some (!t193))))) else (none))) else (none))) else (none))) else (none)) else (none))) else (none)) else (none))) else (none)) else (none))) else (none)) else (none))) else (none)) else (none))) else (none)) else (none))) else (none)))) = some r := H
  have A6 := Aside0.mk A60
  clear A60
  obtain ⟨y176, hy176⟩ : ∃ y_ : List ByteArray, y_ = (([(⟨#[97, 98]⟩ : ByteArray), (⟨#[]⟩ : ByteArray)] : List ByteArray)) := ⟨_, rfl⟩
  replace H : ((rdata_Txt.f k y176).bind fun bt179 => ((rdata_A.f (-1)).bind fun bt181 => (if t157.toList = ([0, 0, 1, 2] : List UInt8) then ((wimplelaw0_Num.f t158).bind fun t183 => (if t183 = 0 then (if t159 = 258 then ((wimplelaw0_Num.f t160).bind fun t184 => (if t184 = 0 then (if t161.toList = ([0, 5, 1, 109, 0] : List UInt8) then ((wimplelaw0_Num.f t162).bind fun t185 => (if t185 = 0 then (if t163.toList = ([1, 109, 0] : List UInt8) then ((wimplelaw0_Num.f t164).bind fun t186 => (if t186 = 0 then (if (t165.size : Int) = 22 then ((wimplelaw0_Num.f t166).bind fun t187 => (if t187 = 0 then (if t173 = 7 then ((wimplelaw0_Num.f t174).bind fun t188 => (if t188 = 0 then (if bt179.1.toList = ([2, 97, 98, 0] : List UInt8) then ((wimplelaw0_Num.f bt179.2).bind fun t189 => (if t189 = 0 then ((wimplelaw0_Num.f bt181.2).bind fun t190 => (if t190 = 400 then ((rdata_May.f 1 t157).bind fun t191 => (if t191 = true then ((rdata_May.f 1 (⟨#[]⟩ : ByteArray)).bind fun t192 => (if t192 = true then (none) else ((rdata_May.f 0 (⟨#[]⟩ : ByteArray)).bind fun t193 => (some (!t193))))) else (none))) else (none))) else (none))) else (none)) else (none))) else (none)) else (none))) else (none)) else (none))) else (none)) else (none))) else (none)) else (none))) else (none)) else (none))) else (none)))) = some r := by first | (rw [hy176]; with_reducible exact H) | (have H2_ := (Option.bind_some _ _).symm.trans H; rw [hy176]; with_reducible exact H2_) | (have H2_ := (Option.bind_some _ _).symm.trans H; with_reducible exact H2_) | with_reducible exact H | (rw [hy176]; exact H) | exact H
  have Ny176 := Aside0.mk hy176
  clear hy176
  replace H := Option.bind_eq_some_iff.mp H
  obtain ⟨⟨t179, t180⟩, A70, H⟩ := H
  replace H : ((rdata_A.f (-1)).bind fun bt181 => (if t157.toList = ([0, 0, 1, 2] : List UInt8) then ((wimplelaw0_Num.f t158).bind fun t183 => (if t183 = 0 then (if t159 = 258 then ((wimplelaw0_Num.f t160).bind fun t184 => (if t184 = 0 then (if t161.toList = ([0, 5, 1, 109, 0] : List UInt8) then ((wimplelaw0_Num.f t162).bind fun t185 => (if t185 = 0 then (if t163.toList = ([1, 109, 0] : List UInt8) then ((wimplelaw0_Num.f t164).bind fun t186 => (if t186 = 0 then (if (t165.size : Int) = 22 then ((wimplelaw0_Num.f t166).bind fun t187 => (if t187 = 0 then (if t173 = 7 then ((wimplelaw0_Num.f t174).bind fun t188 => (if t188 = 0 then (if t179.toList = ([2, 97, 98, 0] : List UInt8) then ((wimplelaw0_Num.f t180).bind fun t189 => (if t189 = 0 then ((wimplelaw0_Num.f bt181.2).bind fun t190 => (if t190 = 400 then ((rdata_May.f 1 t157).bind fun t191 => (if t191 = true then ((rdata_May.f 1 (⟨#[]⟩ : ByteArray)).bind fun t192 => (if t192 = true then (none) else ((rdata_May.f 0 (⟨#[]⟩ : ByteArray)).bind fun t193 => (some (!t193))))) else (none))) else (none))) else (none))) else (none)) else (none))) else (none)) else (none))) else (none)) else (none))) else (none)) else (none))) else (none)) else (none))) else (none)) else (none))) else (none))) = some r := H
  have A7 := Aside0.mk A70
  clear A70
  replace H := Option.bind_eq_some_iff.mp H
  obtain ⟨⟨t181, t182⟩, A80, H⟩ := H
  replace H : (if t157.toList = ([0, 0, 1, 2] : List UInt8) then ((wimplelaw0_Num.f t158).bind fun t183 => (if t183 = 0 then (if t159 = 258 then ((wimplelaw0_Num.f t160).bind fun t184 => (if t184 = 0 then (if t161.toList = ([0, 5, 1, 109, 0] : List UInt8) then ((wimplelaw0_Num.f t162).bind fun t185 => (if t185 = 0 then (if t163.toList = ([1, 109, 0] : List UInt8) then ((wimplelaw0_Num.f t164).bind fun t186 => (if t186 = 0 then (if (t165.size : Int) = 22 then ((wimplelaw0_Num.f t166).bind fun t187 => (if t187 = 0 then (if t173 = 7 then ((wimplelaw0_Num.f t174).bind fun t188 => (if t188 = 0 then (if t179.toList = ([2, 97, 98, 0] : List UInt8) then ((wimplelaw0_Num.f t180).bind fun t189 => (if t189 = 0 then ((wimplelaw0_Num.f t182).bind fun t190 => (if t190 = 400 then ((rdata_May.f 1 t157).bind fun t191 => (if t191 = true then ((rdata_May.f 1 (⟨#[]⟩ : ByteArray)).bind fun t192 => (if t192 = true then (none) else ((rdata_May.f 0 (⟨#[]⟩ : ByteArray)).bind fun t193 => (some (!t193))))) else (none))) else (none))) else (none))) else (none)) else (none))) else (none)) else (none))) else (none)) else (none))) else (none)) else (none))) else (none)) else (none))) else (none)) else (none))) else (none)) = some r := H
  have A8 := Aside0.mk A80
  clear A80
  by_cases c9 : t157.toList = ([0, 0, 1, 2] : List UInt8)
  · rw [if_pos c9] at H
    have c9b0 : (t157.toList == ([0, 0, 1, 2] : List UInt8)) = true := beq_iff_eq.mpr c9
    have c9b1 : (t157.toList != ([0, 0, 1, 2] : List UInt8)) = false := bne_eq_false_iff_eq.mpr c9
    clear c9
    replace H := Option.bind_eq_some_iff.mp H
    obtain ⟨t183, A100, H⟩ := H
    replace H : (if t183 = 0 then (if t159 = 258 then ((wimplelaw0_Num.f t160).bind fun t184 => (if t184 = 0 then (if t161.toList = ([0, 5, 1, 109, 0] : List UInt8) then ((wimplelaw0_Num.f t162).bind fun t185 => (if t185 = 0 then (if t163.toList = ([1, 109, 0] : List UInt8) then ((wimplelaw0_Num.f t164).bind fun t186 => (if t186 = 0 then (if (t165.size : Int) = 22 then ((wimplelaw0_Num.f t166).bind fun t187 => (if t187 = 0 then (if t173 = 7 then ((wimplelaw0_Num.f t174).bind fun t188 => (if t188 = 0 then (if t179.toList = ([2, 97, 98, 0] : List UInt8) then ((wimplelaw0_Num.f t180).bind fun t189 => (if t189 = 0 then ((wimplelaw0_Num.f t182).bind fun t190 => (if t190 = 400 then ((rdata_May.f 1 t157).bind fun t191 => (if t191 = true then ((rdata_May.f 1 (⟨#[]⟩ : ByteArray)).bind fun t192 => (if t192 = true then (none) else ((rdata_May.f 0 (⟨#[]⟩ : ByteArray)).bind fun t193 => (some (!t193))))) else (none))) else (none))) else (none))) else (none)) else (none))) else (none)) else (none))) else (none)) else (none))) else (none)) else (none))) else (none)) else (none))) else (none)) else (none)) = some r := H
    have A10 := Aside0.mk A100
    clear A100
    by_cases c11 : t183 = 0
    · rw [if_pos c11] at H
      have c11b0 : (t183 == 0) = true := beq_iff_eq.mpr c11
      have c11b1 : (t183 != 0) = false := bne_eq_false_iff_eq.mpr c11
      clear c11
      by_cases c12 : t159 = 258
      · rw [if_pos c12] at H
        have c12b0 : (t159 == 258) = true := beq_iff_eq.mpr c12
        have c12b1 : (t159 != 258) = false := bne_eq_false_iff_eq.mpr c12
        clear c12
        replace H := Option.bind_eq_some_iff.mp H
        obtain ⟨t184, A130, H⟩ := H
        replace H : (if t184 = 0 then (if t161.toList = ([0, 5, 1, 109, 0] : List UInt8) then ((wimplelaw0_Num.f t162).bind fun t185 => (if t185 = 0 then (if t163.toList = ([1, 109, 0] : List UInt8) then ((wimplelaw0_Num.f t164).bind fun t186 => (if t186 = 0 then (if (t165.size : Int) = 22 then ((wimplelaw0_Num.f t166).bind fun t187 => (if t187 = 0 then (if t173 = 7 then ((wimplelaw0_Num.f t174).bind fun t188 => (if t188 = 0 then (if t179.toList = ([2, 97, 98, 0] : List UInt8) then ((wimplelaw0_Num.f t180).bind fun t189 => (if t189 = 0 then ((wimplelaw0_Num.f t182).bind fun t190 => (if t190 = 400 then ((rdata_May.f 1 t157).bind fun t191 => (if t191 = true then ((rdata_May.f 1 (⟨#[]⟩ : ByteArray)).bind fun t192 => (if t192 = true then (none) else ((rdata_May.f 0 (⟨#[]⟩ : ByteArray)).bind fun t193 => (some (!t193))))) else (none))) else (none))) else (none))) else (none)) else (none))) else (none)) else (none))) else (none)) else (none))) else (none)) else (none))) else (none)) else (none)) = some r := H
        have A13 := Aside0.mk A130
        clear A130
        by_cases c14 : t184 = 0
        · rw [if_pos c14] at H
          have c14b0 : (t184 == 0) = true := beq_iff_eq.mpr c14
          have c14b1 : (t184 != 0) = false := bne_eq_false_iff_eq.mpr c14
          clear c14
          by_cases c15 : t161.toList = ([0, 5, 1, 109, 0] : List UInt8)
          · rw [if_pos c15] at H
            have c15b0 : (t161.toList == ([0, 5, 1, 109, 0] : List UInt8)) = true := beq_iff_eq.mpr c15
            have c15b1 : (t161.toList != ([0, 5, 1, 109, 0] : List UInt8)) = false := bne_eq_false_iff_eq.mpr c15
            clear c15
            replace H := Option.bind_eq_some_iff.mp H
            obtain ⟨t185, A160, H⟩ := H
            replace H : (if t185 = 0 then (if t163.toList = ([1, 109, 0] : List UInt8) then ((wimplelaw0_Num.f t164).bind fun t186 => (if t186 = 0 then (if (t165.size : Int) = 22 then ((wimplelaw0_Num.f t166).bind fun t187 => (if t187 = 0 then (if t173 = 7 then ((wimplelaw0_Num.f t174).bind fun t188 => (if t188 = 0 then (if t179.toList = ([2, 97, 98, 0] : List UInt8) then ((wimplelaw0_Num.f t180).bind fun t189 => (if t189 = 0 then ((wimplelaw0_Num.f t182).bind fun t190 => (if t190 = 400 then ((rdata_May.f 1 t157).bind fun t191 => (if t191 = true then ((rdata_May.f 1 (⟨#[]⟩ : ByteArray)).bind fun t192 => (if t192 = true then (none) else ((rdata_May.f 0 (⟨#[]⟩ : ByteArray)).bind fun t193 => (some (!t193))))) else (none))) else (none))) else (none))) else (none)) else (none))) else (none)) else (none))) else (none)) else (none))) else (none)) else (none)) = some r := H
            have A16 := Aside0.mk A160
            clear A160
            by_cases c17 : t185 = 0
            · rw [if_pos c17] at H
              have c17b0 : (t185 == 0) = true := beq_iff_eq.mpr c17
              have c17b1 : (t185 != 0) = false := bne_eq_false_iff_eq.mpr c17
              clear c17
              by_cases c18 : t163.toList = ([1, 109, 0] : List UInt8)
              · rw [if_pos c18] at H
                have c18b0 : (t163.toList == ([1, 109, 0] : List UInt8)) = true := beq_iff_eq.mpr c18
                have c18b1 : (t163.toList != ([1, 109, 0] : List UInt8)) = false := bne_eq_false_iff_eq.mpr c18
                clear c18
                replace H := Option.bind_eq_some_iff.mp H
                obtain ⟨t186, A190, H⟩ := H
                replace H : (if t186 = 0 then (if (t165.size : Int) = 22 then ((wimplelaw0_Num.f t166).bind fun t187 => (if t187 = 0 then (if t173 = 7 then ((wimplelaw0_Num.f t174).bind fun t188 => (if t188 = 0 then (if t179.toList = ([2, 97, 98, 0] : List UInt8) then ((wimplelaw0_Num.f t180).bind fun t189 => (if t189 = 0 then ((wimplelaw0_Num.f t182).bind fun t190 => (if t190 = 400 then ((rdata_May.f 1 t157).bind fun t191 => (if t191 = true then ((rdata_May.f 1 (⟨#[]⟩ : ByteArray)).bind fun t192 => (if t192 = true then (none) else ((rdata_May.f 0 (⟨#[]⟩ : ByteArray)).bind fun t193 => (some (!t193))))) else (none))) else (none))) else (none))) else (none)) else (none))) else (none)) else (none))) else (none)) else (none)) = some r := H
                have A19 := Aside0.mk A190
                clear A190
                by_cases c20 : t186 = 0
                · rw [if_pos c20] at H
                  have c20b0 : (t186 == 0) = true := beq_iff_eq.mpr c20
                  have c20b1 : (t186 != 0) = false := bne_eq_false_iff_eq.mpr c20
                  clear c20
                  by_cases c21 : (t165.size : Int) = 22
                  · rw [if_pos c21] at H
                    have c21b0 : ((t165.size : Int) == 22) = true := beq_iff_eq.mpr c21
                    have c21b1 : ((t165.size : Int) != 22) = false := bne_eq_false_iff_eq.mpr c21
                    clear c21
                    replace H := Option.bind_eq_some_iff.mp H
                    obtain ⟨t187, A220, H⟩ := H
                    replace H : (if t187 = 0 then (if t173 = 7 then ((wimplelaw0_Num.f t174).bind fun t188 => (if t188 = 0 then (if t179.toList = ([2, 97, 98, 0] : List UInt8) then ((wimplelaw0_Num.f t180).bind fun t189 => (if t189 = 0 then ((wimplelaw0_Num.f t182).bind fun t190 => (if t190 = 400 then ((rdata_May.f 1 t157).bind fun t191 => (if t191 = true then ((rdata_May.f 1 (⟨#[]⟩ : ByteArray)).bind fun t192 => (if t192 = true then (none) else ((rdata_May.f 0 (⟨#[]⟩ : ByteArray)).bind fun t193 => (some (!t193))))) else (none))) else (none))) else (none))) else (none)) else (none))) else (none)) else (none)) = some r := H
                    have A22 := Aside0.mk A220
                    clear A220
                    by_cases c23 : t187 = 0
                    · rw [if_pos c23] at H
                      have c23b0 : (t187 == 0) = true := beq_iff_eq.mpr c23
                      have c23b1 : (t187 != 0) = false := bne_eq_false_iff_eq.mpr c23
                      clear c23
                      by_cases c24 : t173 = 7
                      · rw [if_pos c24] at H
                        have c24b0 : (t173 == 7) = true := beq_iff_eq.mpr c24
                        have c24b1 : (t173 != 7) = false := bne_eq_false_iff_eq.mpr c24
                        clear c24
                        replace H := Option.bind_eq_some_iff.mp H
                        obtain ⟨t188, A250, H⟩ := H
                        replace H : (if t188 = 0 then (if t179.toList = ([2, 97, 98, 0] : List UInt8) then ((wimplelaw0_Num.f t180).bind fun t189 => (if t189 = 0 then ((wimplelaw0_Num.f t182).bind fun t190 => (if t190 = 400 then ((rdata_May.f 1 t157).bind fun t191 => (if t191 = true then ((rdata_May.f 1 (⟨#[]⟩ : ByteArray)).bind fun t192 => (if t192 = true then (none) else ((rdata_May.f 0 (⟨#[]⟩ : ByteArray)).bind fun t193 => (some (!t193))))) else (none))) else (none))) else (none))) else (none)) else (none)) = some r := H
                        have A25 := Aside0.mk A250
                        clear A250
                        by_cases c26 : t188 = 0
                        · rw [if_pos c26] at H
                          have c26b0 : (t188 == 0) = true := beq_iff_eq.mpr c26
                          have c26b1 : (t188 != 0) = false := bne_eq_false_iff_eq.mpr c26
                          clear c26
                          by_cases c27 : t179.toList = ([2, 97, 98, 0] : List UInt8)
                          · rw [if_pos c27] at H
                            have c27b0 : (t179.toList == ([2, 97, 98, 0] : List UInt8)) = true := beq_iff_eq.mpr c27
                            have c27b1 : (t179.toList != ([2, 97, 98, 0] : List UInt8)) = false := bne_eq_false_iff_eq.mpr c27
                            clear c27
                            replace H := Option.bind_eq_some_iff.mp H
                            obtain ⟨t189, A280, H⟩ := H
                            replace H : (if t189 = 0 then ((wimplelaw0_Num.f t182).bind fun t190 => (if t190 = 400 then ((rdata_May.f 1 t157).bind fun t191 => (if t191 = true then ((rdata_May.f 1 (⟨#[]⟩ : ByteArray)).bind fun t192 => (if t192 = true then (none) else ((rdata_May.f 0 (⟨#[]⟩ : ByteArray)).bind fun t193 => (some (!t193))))) else (none))) else (none))) else (none)) = some r := H
                            have A28 := Aside0.mk A280
                            clear A280
                            by_cases c29 : t189 = 0
                            · rw [if_pos c29] at H
                              have c29b0 : (t189 == 0) = true := beq_iff_eq.mpr c29
                              have c29b1 : (t189 != 0) = false := bne_eq_false_iff_eq.mpr c29
                              clear c29
                              replace H := Option.bind_eq_some_iff.mp H
                              obtain ⟨t190, A300, H⟩ := H
                              replace H : (if t190 = 400 then ((rdata_May.f 1 t157).bind fun t191 => (if t191 = true then ((rdata_May.f 1 (⟨#[]⟩ : ByteArray)).bind fun t192 => (if t192 = true then (none) else ((rdata_May.f 0 (⟨#[]⟩ : ByteArray)).bind fun t193 => (some (!t193))))) else (none))) else (none)) = some r := H
                              have A30 := Aside0.mk A300
                              clear A300
                              by_cases c31 : t190 = 400
                              · rw [if_pos c31] at H
                                have c31b0 : (t190 == 400) = true := beq_iff_eq.mpr c31
                                have c31b1 : (t190 != 400) = false := bne_eq_false_iff_eq.mpr c31
                                clear c31
                                replace H := Option.bind_eq_some_iff.mp H
                                obtain ⟨t191, A320, H⟩ := H
                                replace H : (if t191 = true then ((rdata_May.f 1 (⟨#[]⟩ : ByteArray)).bind fun t192 => (if t192 = true then (none) else ((rdata_May.f 0 (⟨#[]⟩ : ByteArray)).bind fun t193 => (some (!t193))))) else (none)) = some r := H
                                have A32 := Aside0.mk A320
                                clear A320
                                by_cases c33 : t191 = true
                                · subst c33
                                  have H1 : ((rdata_May.f 1 (⟨#[]⟩ : ByteArray)).bind fun t192 => (if t192 = true then (none) else ((rdata_May.f 0 (⟨#[]⟩ : ByteArray)).bind fun t193 => (some (!t193))))) = some r := by rw [if_pos rfl] at H; exact H
                                  clear H
                                  have H := H1
                                  clear H1
                                  replace H := Option.bind_eq_some_iff.mp H
                                  obtain ⟨t192, A340, H⟩ := H
                                  replace H : (if t192 = true then (none) else ((rdata_May.f 0 (⟨#[]⟩ : ByteArray)).bind fun t193 => (some (!t193)))) = some r := H
                                  have A34 := Aside0.mk A340
                                  clear A340
                                  by_cases c35 : t192 = true
                                  · subst c35
                                    have H1 : (none) = some r := by rw [if_pos rfl] at H; exact H
                                    clear H
                                    have H := H1
                                    clear H1
                                    exact absurd H (by simp)
                                  · replace c35 := Bool.eq_false_iff.mpr c35
                                    subst c35
                                    have H1 : ((rdata_May.f 0 (⟨#[]⟩ : ByteArray)).bind fun t193 => (some (!t193))) = some r := by rw [if_neg (show ¬ (false = true) by decide)] at H; exact H
                                    clear H
                                    have H := H1
                                    clear H1
                                    replace H := Option.bind_eq_some_iff.mp H
                                    obtain ⟨t193, A360, H⟩ := H
                                    replace H : (some (!t193)) = some r := H
                                    have A36 := Aside0.mk A360
                                    clear A360
                                    obtain rfl := Option.some.inj H
                                    go_enter Try.func43, Try.ntmps43
                                    go_wp2_with (first | ((with_reducible refine gate_dst (N := 18) rfl ?_); (try (refine gate_guard (by rfl) ?_; dsimp only)); (with_reducible refine gate_callee (f := 25) rfl ?_); refine goesL_ (some 18) rfl rfl Try.func25 (by kernel_rfl) rfl #[.int .i64 258] rfl (by (try simp only [List.map_toArray, List.map_cons, List.map_nil]); first | done | rfl | (simp only [List.length_drop, List.length_take]; rfl)) ?_; (with_reducible refine (rdata_A.calls 258 t157 t158 _ A1.out).mono ?_); rintro e w37 ⟨rfl, hb⟩; refine ⟨_, rfl, ?_⟩; have n0_ := Aside0.mk (below_step (by repeat (first | (with_reducible first | exact HB.out | apply below_alloc | apply pw_below_drewN | apply below_drew1) | exact HB.out)) hb); clear HB; have HB := n0_; clear n0_; (try clear hb); (try clear hb2); (try clear hk); (try clear hi)) | ((with_reducible refine gate_dst (N := 23) rfl ?_); (try (refine gate_guard (by rfl) ?_; dsimp only)); (with_reducible refine gate_callee (f := 27) rfl ?_); refine goesL_ (some 23) rfl rfl Try.func27 (by kernel_rfl) rfl #[.string t157] rfl (by (try simp only [List.map_toArray, List.map_cons, List.map_nil]); first | done | rfl | (simp only [List.length_drop, List.length_take]; rfl)) ?_; (with_reducible refine (rdata_Addr.calls t157 t159 t160 _ A2.out).mono ?_); rintro e w38 ⟨rfl, hb⟩; refine ⟨_, rfl, ?_⟩; have n0_ := Aside0.mk (below_step (by repeat (first | (with_reducible first | exact HB.out | apply below_alloc | apply pw_below_drewN | apply below_drew1) | exact HB.out)) hb); clear HB; have HB := n0_; clear n0_; (try clear hb); (try clear hb2); (try clear hk); (try clear hi)) | ((with_reducible refine gate_dst (N := 27) rfl ?_); (try (refine gate_guard (by rfl) ?_; dsimp only)); (with_reducible refine gate_callee (f := 29) rfl ?_); refine goesL_ (some 27) rfl rfl Try.func29 (by kernel_rfl) rfl #[.int .i64 5, .string (⟨#[1, 109, 0]⟩ : ByteArray)] rfl (by (try simp only [List.map_toArray, List.map_cons, List.map_nil]); first | done | rfl | (simp only [List.length_drop, List.length_take]; rfl)) ?_; (with_reducible refine (rdata_Mx.calls 5 (⟨#[1, 109, 0]⟩ : ByteArray) t161 t162 _ A3.out).mono ?_); rintro e w39 ⟨rfl, hb⟩; refine ⟨_, rfl, ?_⟩; have n0_ := Aside0.mk (below_step (by repeat (first | (with_reducible first | exact HB.out | apply below_alloc | apply pw_below_drewN | apply below_drew1) | exact HB.out)) hb); clear HB; have HB := n0_; clear n0_; (try clear hb); (try clear hb2); (try clear hk); (try clear hi)) | ((with_reducible refine gate_dst (N := 32) rfl ?_); (try (refine gate_guard (by rfl) ?_; dsimp only)); (with_reducible refine gate_callee (f := 31) rfl ?_); refine goesL_ (some 32) rfl rfl Try.func31 (by kernel_rfl) rfl #[.int .i64 15, .string t161] rfl (by (try simp only [List.map_toArray, List.map_cons, List.map_nil]); first | done | rfl | (simp only [List.length_drop, List.length_take]; rfl)) ?_; (with_reducible refine (rdata_Host.calls 15 t161 t163 t164 _ A4.out).mono ?_); rintro e w40 ⟨rfl, hb⟩; refine ⟨_, rfl, ?_⟩; have n0_ := Aside0.mk (below_step (by repeat (first | (with_reducible first | exact HB.out | apply below_alloc | apply pw_below_drewN | apply below_drew1) | exact HB.out)) hb); clear HB; have HB := n0_; clear n0_; (try clear hb); (try clear hb2); (try clear hk); (try clear hi)) | ((with_reducible refine gate_dst (N := 37) rfl ?_); (try (refine gate_guard (by rfl) ?_; dsimp only)); (with_reducible refine gate_callee (f := 35) rfl ?_); refine goesL_ (some 37) rfl rfl Try.func35 (by kernel_rfl) rfl #[.agg #[.string (⟨#[0]⟩ : ByteArray), .string (⟨#[0]⟩ : ByteArray), .int .i64 0, .int .i64 0, .int .i64 0, .int .i64 0, .int .i64 7]] rfl (by (try simp only [List.map_toArray, List.map_cons, List.map_nil]); first | done | rfl | (simp only [List.length_drop, List.length_take]; rfl)) ?_; (with_reducible refine (rdata_Soa.calls (⟨#[0]⟩ : ByteArray) (⟨#[0]⟩ : ByteArray) 0 0 0 0 7 t165 t166 _ A5.out).mono ?_); rintro e w41 ⟨rfl, hb⟩; refine ⟨_, rfl, ?_⟩; have n0_ := Aside0.mk (below_step (by repeat (first | (with_reducible first | exact HB.out | apply below_alloc | apply pw_below_drewN | apply below_drew1) | exact HB.out)) hb); clear HB; have HB := n0_; clear n0_; (try clear hb); (try clear hb2); (try clear hk); (try clear hi)) | ((with_reducible refine gate_dst (N := 42) rfl ?_); (try (refine gate_guard (by rfl) ?_; dsimp only)); (with_reducible refine gate_callee (f := 37) rfl ?_); refine goesL_ (some 42) rfl rfl Try.func37 (by kernel_rfl) rfl #[.string t165] rfl (by (try simp only [List.map_toArray, List.map_cons, List.map_nil]); first | done | rfl | (simp only [List.length_drop, List.length_take]; rfl)) ?_; (with_reducible refine (rdata_Unsoa.calls t165 t167 t168 t169 t170 t171 t172 t173 t174 _ A6.out).mono ?_); rintro e w42 ⟨rfl, hb⟩; refine ⟨_, rfl, ?_⟩; have n0_ := Aside0.mk (below_step (by repeat (first | (with_reducible first | exact HB.out | apply below_alloc | apply pw_below_drewN | apply below_drew1) | exact HB.out)) hb); clear HB; have HB := n0_; clear n0_; (try clear hb); (try clear hb2); (try clear hk); (try clear hi)) | ((with_reducible refine gate_dst (N := 11) rfl ?_); (try (refine gate_guard (by rfl) ?_; dsimp only)); refine box_event ?hg (N := 11) ?hd (cs := #[.string (⟨#[]⟩ : ByteArray), .string (⟨#[]⟩ : ByteArray), .int .i64 0, .int .i64 0, .int .i64 0, .int .i64 0, .int .i64 0]) (t := 59) ?hr ?_; (case hd => rfl); (case hg => rfl); (case hr => first | (go_simp; done) | (go_simp; rfl)); intro gb175 hg w43 hbox hb; have n0_ := Aside0.mk (below_step (by repeat (first | (with_reducible first | exact HB.out | apply below_alloc | apply pw_below_drewN | apply below_drew1) | exact HB.out)) hb); have n1_ := Aside0.mk (hbox); have n2_ := Aside0.mk ((by rw [hg]; exact (below_size (by repeat (first | (with_reducible first | exact HB.out | apply below_alloc | apply pw_below_drewN | apply below_drew1) | exact HB.out))) : w.heap.size ≤ gb175)); have n3_ := Aside0.mk ((by rw [hg]; exact (below_size (by repeat (first | (with_reducible first | exact HB.out | apply below_alloc | apply pw_below_drewN | apply below_drew1) | exact HB.out))) : w.heap.size ≤ gb175)); clear HB; have HB := n0_; have BK175 := n1_; have GW175 := n2_; have GE175 := n3_; clear n0_ n1_ n2_ n3_; clear hb hbox hg; have hcz44_0 : w43.cell? ⟨gb175, 0, none⟩ = some (.string (⟨#[]⟩ : ByteArray)) := (blk_cell BK175.out 0).trans rfl; have hcz44_1 : w43.cell? ⟨gb175, 1, none⟩ = some (.string (⟨#[]⟩ : ByteArray)) := (blk_cell BK175.out 1).trans rfl; have hcz44_2 : w43.cell? ⟨gb175, 2, none⟩ = some (.int .i64 0) := (blk_cell BK175.out 2).trans rfl; have hcz44_3 : w43.cell? ⟨gb175, 3, none⟩ = some (.int .i64 0) := (blk_cell BK175.out 3).trans rfl; have hcz44_4 : w43.cell? ⟨gb175, 4, none⟩ = some (.int .i64 0) := (blk_cell BK175.out 4).trans rfl; have hcz44_5 : w43.cell? ⟨gb175, 5, none⟩ = some (.int .i64 0) := (blk_cell BK175.out 5).trans rfl; have hcz44_6 : w43.cell? ⟨gb175, 6, none⟩ = some (.int .i64 0) := (blk_cell BK175.out 6).trans rfl; have hfz44_0 := blk_frozen BK175.out 0; have hfz44_1 := blk_frozen BK175.out 1; have hfz44_2 := blk_frozen BK175.out 2; have hfz44_3 := blk_frozen BK175.out 3; have hfz44_4 := blk_frozen BK175.out 4; have hfz44_5 := blk_frozen BK175.out 5; have hfz44_6 := blk_frozen BK175.out 6) | ((with_reducible refine gate_dst (N := 46) rfl ?_); (try (refine gate_guard (by rfl) ?_; dsimp only)); refine Kd.R_lit Kd.string _ 9 ?hg (N := 46) ?hd (xs := ([(⟨#[97, 98]⟩ : ByteArray), (⟨#[]⟩ : ByteArray)] : List ByteArray)) (inner := [.string (⟨#[97, 98]⟩ : ByteArray), .string (⟨#[]⟩ : ByteArray)]) (ok := fun _ => True) (okp := fun _ => True) ?hr ?hp (fun _ hk => hk) trivial (Below.refl _ _) (Nat.le_refl _) (by simp) ?_; (case hd => rfl); (case hg => rfl); (case hr => first | (go_simp; done) | (go_simp; rfl)); (case hp => exact (Reps.one (show Kd.M Kd.string _ _ _ (⟨#[97, 98]⟩ : ByteArray) [.string (⟨#[97, 98]⟩ : ByteArray)] from rfl) (Reps.one (show Kd.M Kd.string _ _ _ (⟨#[]⟩ : ByteArray) [.string (⟨#[]⟩ : ByteArray)] from rfl) (Reps.none _ _)))); intro v177 w45 ho46 hb hg_ hnew_; clear hg_ hnew_; (first | rw [← Ny176.out] at ho46 | (simp only [Int.reduceToNat] at ho46; rw [← Ny176.out] at ho46)); have n0_ := Aside0.mk (Kd.R_lower ho46 (below_size (by repeat (first | (with_reducible first | exact HB.out | apply below_alloc | apply pw_below_drewN | apply below_drew1 | refine below_set ?_ GE175.out) | exact HB.out)))); have n1_ := Aside0.mk (blk_below (g := gb175) (o := .cells #[.string t167, .string t168, .int .i64 t169, .int .i64 t170, .int .i64 t171, .int .i64 t172, .int .i64 t173] 59 (0, 0)) (by (with_reducible repeat (first | refine blk_drewN ?_ _ | refine blk_drew ?_ | refine blk_alloc ?_ _)); refine blk_put (cs := #[.string t167, .string t168, .int .i64 t169, .int .i64 t170, .int .i64 t171, .int .i64 t172, .int .i64 0]) ?_ 6 _ rfl; (with_reducible repeat (first | refine blk_drewN ?_ _ | refine blk_drew ?_ | refine blk_alloc ?_ _)); refine blk_put (cs := #[.string t167, .string t168, .int .i64 t169, .int .i64 t170, .int .i64 t171, .int .i64 0, .int .i64 0]) ?_ 5 _ rfl; (with_reducible repeat (first | refine blk_drewN ?_ _ | refine blk_drew ?_ | refine blk_alloc ?_ _)); refine blk_put (cs := #[.string t167, .string t168, .int .i64 t169, .int .i64 t170, .int .i64 0, .int .i64 0, .int .i64 0]) ?_ 4 _ rfl; (with_reducible repeat (first | refine blk_drewN ?_ _ | refine blk_drew ?_ | refine blk_alloc ?_ _)); refine blk_put (cs := #[.string t167, .string t168, .int .i64 t169, .int .i64 0, .int .i64 0, .int .i64 0, .int .i64 0]) ?_ 3 _ rfl; (with_reducible repeat (first | refine blk_drewN ?_ _ | refine blk_drew ?_ | refine blk_alloc ?_ _)); refine blk_put (cs := #[.string t167, .string t168, .int .i64 0, .int .i64 0, .int .i64 0, .int .i64 0, .int .i64 0]) ?_ 2 _ rfl; (with_reducible repeat (first | refine blk_drewN ?_ _ | refine blk_drew ?_ | refine blk_alloc ?_ _)); refine blk_put (cs := #[.string t167, .string (⟨#[]⟩ : ByteArray), .int .i64 0, .int .i64 0, .int .i64 0, .int .i64 0, .int .i64 0]) ?_ 1 _ rfl; (with_reducible repeat (first | refine blk_drewN ?_ _ | refine blk_drew ?_ | refine blk_alloc ?_ _)); refine blk_put (cs := #[.string (⟨#[]⟩ : ByteArray), .string (⟨#[]⟩ : ByteArray), .int .i64 0, .int .i64 0, .int .i64 0, .int .i64 0, .int .i64 0]) ?_ 0 _ rfl; (with_reducible repeat (first | refine blk_drewN ?_ _ | refine blk_drew ?_ | refine blk_alloc ?_ _)); exact BK175.out) hb); have n2_ := Aside0.mk (below_step (by repeat (first | (with_reducible first | exact HB.out | apply below_alloc | apply pw_below_drewN | apply below_drew1 | refine below_set ?_ GE175.out) | exact HB.out)) hb); clear BK175; clear HB; have HO178 := n0_; have BK175 := n1_; have HB := n2_; clear n0_ n1_ n2_; clear hb ho46; obtain ⟨Ao47, co47, eo47⟩ := Kd.R_slice HO178.out; subst eo47) | ((with_reducible refine gate_dst (N := 47) rfl ?_); (try (refine gate_guard (by rfl) ?_; dsimp only)); (with_reducible refine gate_callee (f := 40) rfl ?_); refine goesL_ (some 47) rfl rfl Try.func40 (by kernel_rfl) rfl #[.slice Ao47 y176.length co47] rfl (by (try simp only [List.map_toArray, List.map_cons, List.map_nil]); first | done | rfl | (simp only [List.length_drop, List.length_take]; rfl)) ?_; (with_reducible refine (rdata_Txt.calls k _ _ y176 t179 t180 _ ?side1 ?side2 A7.out).mono ?_); (case side1 => repeat (first | exact (Kd.R_reads' HO178.out).2.2 | (with_reducible refine Kd.C_alloc ?_ _) | (with_reducible refine Kd.C_drewN ?_ _) | (with_reducible refine Kd.C_drew ?_))); (case side2 => exact (Kd.R_reads' HO178.out).2.1); rintro e w48 ⟨rfl, hb⟩; refine ⟨_, rfl, ?_⟩; have n0_ := Aside0.mk (Kd.R_below (by (with_reducible repeat (first | apply Kd.R_alloc | apply Kd.R_drewN | apply Kd.R_drew)); exact HO178.out) hb); have n1_ := Aside0.mk (blk_below (g := gb175) (o := .cells #[.string t167, .string t168, .int .i64 t169, .int .i64 t170, .int .i64 t171, .int .i64 t172, .int .i64 t173] 59 (0, 0)) (by (with_reducible repeat (first | refine blk_drewN ?_ _ | refine blk_drew ?_ | refine blk_alloc ?_ _)); exact BK175.out) hb); have n2_ := Aside0.mk (below_step (by repeat (first | (with_reducible first | exact HB.out | apply below_alloc | apply pw_below_drewN | apply below_drew1 | refine below_set ?_ GE175.out) | exact HB.out)) hb); clear HO178; clear BK175; clear HB; have HO178 := n0_; have BK175 := n1_; have HB := n2_; clear n0_ n1_ n2_; (try clear hb); (try clear hb2); (try clear hk); (try clear hi)) | ((with_reducible refine gate_dst (N := 51) rfl ?_); (try (refine gate_guard (by rfl) ?_; dsimp only)); (with_reducible refine gate_callee (f := 25) rfl ?_); refine goesL_ (some 51) rfl rfl Try.func25 (by kernel_rfl) rfl #[.int .i64 (-1)] rfl (by (try simp only [List.map_toArray, List.map_cons, List.map_nil]); first | done | rfl | (simp only [List.length_drop, List.length_take]; rfl)) ?_; (with_reducible refine (rdata_A.calls (-1) t181 t182 _ A8.out).mono ?_); rintro e w49 ⟨rfl, hb⟩; refine ⟨_, rfl, ?_⟩; have n0_ := Aside0.mk (Kd.R_below (by (with_reducible repeat (first | apply Kd.R_alloc | apply Kd.R_drewN | apply Kd.R_drew)); exact HO178.out) hb); have n1_ := Aside0.mk (blk_below (g := gb175) (o := .cells #[.string t167, .string t168, .int .i64 t169, .int .i64 t170, .int .i64 t171, .int .i64 t172, .int .i64 t173] 59 (0, 0)) (by (with_reducible repeat (first | refine blk_drewN ?_ _ | refine blk_drew ?_ | refine blk_alloc ?_ _)); exact BK175.out) hb); have n2_ := Aside0.mk (below_step (by repeat (first | (with_reducible first | exact HB.out | apply below_alloc | apply pw_below_drewN | apply below_drew1 | refine below_set ?_ GE175.out) | exact HB.out)) hb); clear HO178; clear BK175; clear HB; have HO178 := n0_; have BK175 := n1_; have HB := n2_; clear n0_ n1_ n2_; (try clear hb); (try clear hb2); (try clear hk); (try clear hi)) | (go_at_call 20; (with_reducible refine (wimplelaw0_Num.calls t158 t183 _ A10.out).mono ?_); rintro e w' ⟨rfl, ⟨nd, rfl⟩⟩) | (go_at_call 20; (with_reducible refine (wimplelaw0_Num.calls t160 t184 _ A13.out).mono ?_); rintro e w' ⟨rfl, ⟨nd, rfl⟩⟩) | (go_at_call 20; (with_reducible refine (wimplelaw0_Num.calls t162 t185 _ A16.out).mono ?_); rintro e w' ⟨rfl, ⟨nd, rfl⟩⟩) | (go_at_call 20; (with_reducible refine (wimplelaw0_Num.calls t164 t186 _ A19.out).mono ?_); rintro e w' ⟨rfl, ⟨nd, rfl⟩⟩) | (go_at_call 20; (with_reducible refine (wimplelaw0_Num.calls t166 t187 _ A22.out).mono ?_); rintro e w' ⟨rfl, ⟨nd, rfl⟩⟩; (try clear hcz44_0 hcz44_1 hcz44_2 hcz44_3 hcz44_4 hcz44_5 hcz44_6 hfz44_0 hfz44_1 hfz44_2 hfz44_3 hfz44_4 hfz44_5 hfz44_6); have hcz50_0 : w49.cell? ⟨gb175, 0, none⟩ = some (.string t167) := (blk_cell BK175.out 0).trans rfl; have hcz50_1 : w49.cell? ⟨gb175, 1, none⟩ = some (.string t168) := (blk_cell BK175.out 1).trans rfl; have hcz50_2 : w49.cell? ⟨gb175, 2, none⟩ = some (.int .i64 t169) := (blk_cell BK175.out 2).trans rfl; have hcz50_3 : w49.cell? ⟨gb175, 3, none⟩ = some (.int .i64 t170) := (blk_cell BK175.out 3).trans rfl; have hcz50_4 : w49.cell? ⟨gb175, 4, none⟩ = some (.int .i64 t171) := (blk_cell BK175.out 4).trans rfl; have hcz50_5 : w49.cell? ⟨gb175, 5, none⟩ = some (.int .i64 t172) := (blk_cell BK175.out 5).trans rfl; have hcz50_6 : w49.cell? ⟨gb175, 6, none⟩ = some (.int .i64 t173) := (blk_cell BK175.out 6).trans rfl; have hfz50_0 := blk_frozen BK175.out 0; have hfz50_1 := blk_frozen BK175.out 1; have hfz50_2 := blk_frozen BK175.out 2; have hfz50_3 := blk_frozen BK175.out 3; have hfz50_4 := blk_frozen BK175.out 4; have hfz50_5 := blk_frozen BK175.out 5; have hfz50_6 := blk_frozen BK175.out 6) | (go_at_call 20; (with_reducible refine (wimplelaw0_Num.calls t174 t188 _ A25.out).mono ?_); rintro e w' ⟨rfl, ⟨nd, rfl⟩⟩) | (go_at_call 20; (with_reducible refine (wimplelaw0_Num.calls t180 t189 _ A28.out).mono ?_); rintro e w' ⟨rfl, ⟨nd, rfl⟩⟩) | (go_at_call 20; (with_reducible refine (wimplelaw0_Num.calls t182 t190 _ A30.out).mono ?_); rintro e w' ⟨rfl, ⟨nd, rfl⟩⟩) | (go_at_call 33; (with_reducible refine (rdata_May.calls 1 t157 true _ A32.out).mono ?_); rintro e w51 ⟨rfl, hb⟩; have n0_ := Aside0.mk (Kd.R_below (by (with_reducible repeat (first | apply Kd.R_alloc | apply Kd.R_drewN | apply Kd.R_drew)); exact HO178.out) hb); have n1_ := Aside0.mk (blk_below (g := gb175) (o := .cells #[.string t167, .string t168, .int .i64 t169, .int .i64 t170, .int .i64 t171, .int .i64 t172, .int .i64 t173] 59 (0, 0)) (by (with_reducible repeat (first | refine blk_drewN ?_ _ | refine blk_drew ?_ | refine blk_alloc ?_ _)); exact BK175.out) hb); have n2_ := Aside0.mk (below_step (by repeat (first | (with_reducible first | exact HB.out | apply below_alloc | apply pw_below_drewN | apply below_drew1 | refine below_set ?_ GE175.out) | exact HB.out)) hb); clear HO178; clear BK175; clear HB; have HO178 := n0_; have BK175 := n1_; have HB := n2_; clear n0_ n1_ n2_; (try clear hb); (try clear hb2); (try clear hk); (try clear hi)) | (go_at_call 33; (with_reducible refine (rdata_May.calls 1 (⟨#[]⟩ : ByteArray) false _ A34.out).mono ?_); rintro e w52 ⟨rfl, hb⟩; have n0_ := Aside0.mk (Kd.R_below (by (with_reducible repeat (first | apply Kd.R_alloc | apply Kd.R_drewN | apply Kd.R_drew)); exact HO178.out) hb); have n1_ := Aside0.mk (blk_below (g := gb175) (o := .cells #[.string t167, .string t168, .int .i64 t169, .int .i64 t170, .int .i64 t171, .int .i64 t172, .int .i64 t173] 59 (0, 0)) (by (with_reducible repeat (first | refine blk_drewN ?_ _ | refine blk_drew ?_ | refine blk_alloc ?_ _)); exact BK175.out) hb); have n2_ := Aside0.mk (below_step (by repeat (first | (with_reducible first | exact HB.out | apply below_alloc | apply pw_below_drewN | apply below_drew1 | refine below_set ?_ GE175.out) | exact HB.out)) hb); clear HO178; clear BK175; clear HB; have HO178 := n0_; have BK175 := n1_; have HB := n2_; clear n0_ n1_ n2_; (try clear hb); (try clear hb2); (try clear hk); (try clear hi)) | (go_at_call 33; (with_reducible refine (rdata_May.calls 0 (⟨#[]⟩ : ByteArray) t193 _ A36.out).mono ?_); rintro e w53 ⟨rfl, hb⟩; have n0_ := Aside0.mk (Kd.R_below (by (with_reducible repeat (first | apply Kd.R_alloc | apply Kd.R_drewN | apply Kd.R_drew)); exact HO178.out) hb); have n1_ := Aside0.mk (blk_below (g := gb175) (o := .cells #[.string t167, .string t168, .int .i64 t169, .int .i64 t170, .int .i64 t171, .int .i64 t172, .int .i64 t173] 59 (0, 0)) (by (with_reducible repeat (first | refine blk_drewN ?_ _ | refine blk_drew ?_ | refine blk_alloc ?_ _)); exact BK175.out) hb); have n2_ := Aside0.mk (below_step (by repeat (first | (with_reducible first | exact HB.out | apply below_alloc | apply pw_below_drewN | apply below_drew1 | refine below_set ?_ GE175.out) | exact HB.out)) hb); clear HO178; clear BK175; clear HB; have HO178 := n0_; have BK175 := n1_; have HB := n2_; clear n0_ n1_ n2_; (try clear hb); (try clear hb2); (try clear hk); (try clear hi)))
                                    go_ret
                                    exact ⟨by first | rfl | (simp [errW_none, errW_some] <;> rfl) | (simp [*, errW_none, errW_some] <;> rfl), by repeat (first | (with_reducible first | exact HB.out | apply below_alloc | apply pw_below_drewN | apply below_drew1 | refine below_set ?_ GE175.out) | exact HB.out)⟩
                                · replace c33 := Bool.eq_false_iff.mpr c33
                                  subst c33
                                  have H1 : (none) = some r := by rw [if_neg (show ¬ (false = true) by decide)] at H; exact H
                                  clear H
                                  have H := H1
                                  clear H1
                                  exact absurd H (by simp)
                              · rw [if_neg c31] at H
                                exact absurd H (by simp)
                            · rw [if_neg c29] at H
                              exact absurd H (by simp)
                          · rw [if_neg c27] at H
                            exact absurd H (by simp)
                        · rw [if_neg c26] at H
                          exact absurd H (by simp)
                      · rw [if_neg c24] at H
                        exact absurd H (by simp)
                    · rw [if_neg c23] at H
                      exact absurd H (by simp)
                  · rw [if_neg c21] at H
                    exact absurd H (by simp)
                · rw [if_neg c20] at H
                  exact absurd H (by simp)
              · rw [if_neg c18] at H
                exact absurd H (by simp)
            · rw [if_neg c17] at H
              exact absurd H (by simp)
          · rw [if_neg c15] at H
            exact absurd H (by simp)
        · rw [if_neg c14] at H
          exact absurd H (by simp)
      · rw [if_neg c12] at H
        exact absurd H (by simp)
    · rw [if_neg c11] at H
      exact absurd H (by simp)
  · rw [if_neg c9] at H
    exact absurd H (by simp)

end Go.Proofs.Ytndcjleadggibaa.PRz

namespace Go.Proofs.Ytndcjleadggibaa.RdS
open Go.RowKit Go.Proofs.Ytndcjleadggibaa.PRz Go.Proofs.Ytndcjleadggibaa.Pu Go.Proofs.Ytndcjleadggibaa.Rd
open Go.Proofs.YtndcjleadggibaaW.PrintWords (Ev Ev.of Ev.bind Ev.step Ev.rounds)
set_option linter.unusedVariables false
theorem num_eq (x : Int) : wimplelaw0_Num.f x = some x := rfl
theorem isB (s : ByteArray) (l : List UInt8) (h : s.data.toList = l) : s.toList = l := by rw [toList_data]; exact h
theorem may_eq (t : Int) (s : ByteArray) (h : s.size ≤ 9223372036854775000) : rdata_May.f t s = some (mayD t s) := by unfold rdata_May.f; rw [if_pos h]
theorem host_eq (t : Int) (s : ByteArray) (h : s.size ≤ 9223372036854775000) : rdata_Host.f t s = some (hostS t s, hostE t s) := by unfold rdata_Host.f; rw [if_pos h]
theorem unsoa_eq (s : ByteArray) (h : s.size ≤ 9223372036854775000) : rdata_Unsoa.f s = some ((unX s).host, (unX s).mail, (unX s).s0, (unX s).s1, (unX s).s2, (unX s).s3, (unX s).s4, unE s) := by unfold rdata_Unsoa.f; rw [if_pos h]
theorem txt2 : Ev (fun k => rdata_Txt.f k [(⟨#[97, 98]⟩ : ByteArray), (⟨#[]⟩ : ByteArray)]) (sT, 0) := Ev.of (rdata_Txt.mono _) (k := 6) (by decide +kernel)
theorem awake_ev : Ev (fun k => wimplelaw4_awake.f k) true := by
  unfold wimplelaw4_awake.f
  refine Ev.call (a := (sA, 0)) (by show some (aS 258, aE 258) = _; rw [aw_a, aw_ae]) ?_
  refine Ev.call (a := (258, 0)) (by unfold rdata_Addr.f; rw [if_pos (by decide), aw_x, aw_xe]) ?_
  refine Ev.call (a := (sM, 0)) (by show some (mxS 5 sH, mxE 5 sH) = _; rw [aw_m, aw_me]) ?_
  refine Ev.call (a := (sH, 0)) (by rw [host_eq _ _ (by decide), aw_h, aw_he]) ?_
  refine Ev.call (a := (sS, 0)) (by show some (xS.S, xS.E) = _; rw [aw_s, aw_se]) ?_
  refine Ev.call (a := (s0, s0, 0, 0, 0, 0, 7, 0)) (by rw [unsoa_eq _ (by decide), aw_u, aw_ue]) ?_
  refine Ev.bind txt2 ?_
  refine Ev.call (a := (emp, 400)) (by show some (aS (-1), aE (-1)) = _; rw [aw_b, aw_be]) ?_
  refine Ev.pos (isB _ _ rfl) (Ev.call (num_eq _) (Ev.pos rfl (Ev.pos rfl (Ev.call (num_eq _) (Ev.pos rfl ?_)))))
  refine Ev.pos (isB _ _ rfl) (Ev.call (num_eq _) (Ev.pos rfl ?_))
  refine Ev.pos (isB _ _ rfl) (Ev.call (num_eq _) (Ev.pos rfl ?_))
  refine Ev.pos (by decide) (Ev.call (num_eq _) (Ev.pos rfl (Ev.pos rfl (Ev.call (num_eq _) (Ev.pos rfl ?_)))))
  refine Ev.pos (isB _ _ rfl) (Ev.call (num_eq _) (Ev.pos rfl (Ev.call (num_eq _) (Ev.pos rfl ?_))))
  refine Ev.call (a := true) (by rw [may_eq _ _ (by decide), aw_m1]) (Ev.pos rfl ?_)
  refine Ev.call (a := false) (by rw [may_eq _ _ (by decide)]; exact congrArg some aw_m2) (Ev.neg (by simp) ?_)
  refine Ev.call (a := false) (by rw [may_eq _ _ (by decide)]; exact congrArg some aw_m3) (Ev.some _ fun _ => rfl)
end Go.Proofs.Ytndcjleadggibaa.RdS

namespace Go.Proofs.Ytndcjleadggibaa.RdS
open Go.PlainAid Go.Proofs.Ytndcjleadggibaa.Base Go.Proofs.Ytndcjleadggibaa.Oct Go.Proofs.Ytndcjleadggibaa.Nm Go.Proofs.Ytndcjleadggibaa.Rd
open Go.Proofs.Ytndcjleadggibaa.Pu (ext_data data_length)
set_option linter.unusedVariables false
theorem bt_mid (P h R : ByteArray) (i : Nat) (hi : i < h.size) : bt (P ++ h ++ R) (P.size + i) = bt h i := by
  rw [bt_append_left _ _ _ (by rw [ByteArray.size_append]; omega), bt_append_right _ _ _ (by omega)]
  congr 1; omega
theorem extract_mid (P h R : ByteArray) : (P ++ h ++ R).extract P.size (P.size + h.size) = h := by
  apply ext_data
  rw [ByteArray.data_extract, Array.toList_extract, List.extract_eq_take_drop, ByteArray.data_append, ByteArray.data_append, Array.toList_append, Array.toList_append]
  have h1 : P.data.toList.length = P.size := data_length P
  have h2 : h.data.toList.length = h.size := data_length h
  rw [List.append_assoc, ← h1, List.drop_left, show P.data.toList.length + h.size - P.data.toList.length = h.data.toList.length by omega, List.take_left]
theorem zero_mid (P h R : ByteArray) : ∀ (d i : Nat), h.size - i ≤ d → nameAt h i = true → zeroAt (P ++ h ++ R) (P.size + i) = some (P.size + h.size - 1)
  | 0, i, hd, hn => by rw [nameAt_out (by omega)] at hn; cases hn
  | d + 1, i, hd, hn => by
    by_cases hi : i < h.size
    · have hb := bt_mid P h R i hi
      have hs : P.size + i < (P ++ h ++ R).size := by rw [ByteArray.size_append, ByteArray.size_append]; omega
      by_cases h0 : bt h i = 0
      · rw [nameAt_end hi h0] at hn
        simp only [decide_eq_true_eq] at hn
        rw [zeroAt_end hs (by rw [hb]; exact h0)]
        congr 1; omega
      · by_cases h1 : bt h i ≤ 63
        · rw [nameAt_next hi h0 h1] at hn
          rw [zeroAt_next hs (by rw [hb]; exact h0), hb, show P.size + i + 1 + (bt h i).toNat = P.size + (i + 1 + (bt h i).toNat) by omega]
          exact zero_mid P h R d _ (by omega) hn
        · rw [nameAt_bad hi (by omega)] at hn; cases hn
    · rw [nameAt_out (by omega)] at hn; cases hn
theorem name_pos {h : ByteArray} (hn : nameB h = true) : 0 < h.size := by
  rcases Nat.eq_zero_or_pos h.size with h0 | h0
  · rw [nameB_small h0] at hn; cases hn
  · exact h0
theorem end_mid (P h R : ByteArray) (hn : nameB h = true) : endN (P ++ h ++ R) P.size = ((P.size + h.size : Nat) : Int) := by
  have h1 : nameAt h 0 = true := by unfold nameB at hn; simp only [Bool.and_eq_true] at hn; exact hn.2
  have hz := zero_mid P h R h.size 0 (by omega) h1
  have hp := name_pos hn
  unfold endN
  rw [Nat.add_zero] at hz
  rw [hz]
  simp only
  rw [show P.size + h.size - 1 + 1 = P.size + h.size by omega, extract_mid, hn, if_pos rfl]
  omega
theorem empty_append (h : ByteArray) : (⟨#[]⟩ : ByteArray) ++ h = h := by apply ext_data; rw [ByteArray.data_append]; simp
theorem end_first (h R : ByteArray) (hn : nameB h = true) : endN (h ++ R) 0 = ((h.size : Nat) : Int) := by
  have := end_mid (⟨#[]⟩ : ByteArray) h R hn
  rw [empty_append] at this
  rw [show (0 : Nat) = (⟨#[]⟩ : ByteArray).size from rfl, this]
  show ((0 + h.size : Nat) : Int) = _
  rw [Nat.zero_add]
theorem append_empty (s : ByteArray) : s ++ (⟨#[]⟩ : ByteArray) = s := by apply ext_data; rw [ByteArray.data_append]; simp
end Go.Proofs.Ytndcjleadggibaa.RdS

namespace Go.Proofs.Ytndcjleadggibaa.Oct
open Go.RowKit Go.PlainAid Go.Proofs.Ytndcjleadggibaa.Base
set_option linter.unusedVariables false

/-! ### string(make([]byte, n)) -/
def zeros (m : Nat) : ByteArray := strOfNums (List.replicate m 0)
theorem zeros_size (m : Nat) : (zeros m).size = m := by simp [zeros, strOfNums_size]
theorem info_u8 : (Try.prog.info? 5).map (fun i => (i.zero, i.size, i.bytes)) = some (some (.int .u8 0), 1, 1) := by kernel_rfl
theorem make_zeros (m : Nat) (hm : m ≤ 281474976710656) (W : World) : (Instr.makeSlice 54 (.int .i64 (m : Int)) (.int .i64 (m : Int))).run Try.prog W = .ok (.slice (some ⟨W.heap.size, 0, none⟩) m m) (W.alloc (.cells (madeCells #[.int .u8 0] m) 5)) :=
  run_make_row' 54 5 (.int .u8 0) 1 Try.underlying54 info_u8 rfl .i64 .i64 m (by omega) (by omega) W
theorem conv_zeros (m : Nat) (W : World) : (convert 54 9 (.slice (some ⟨W.heap.size, 0, none⟩) m m)).run Try.prog (W.alloc (.cells (madeCells #[.int .u8 0] m) 5)) = .ok (.string (zeros m)) (W.alloc (.cells (madeCells #[.int .u8 0] m) 5)) :=
  run_convert_bytes_arg (P := Try.prog) _ 54 5 Try.underlying54 Try.underlying5 W.heap.size 0 m m (List.replicate m 0) (by simp)
    (fun i hi => by
      have h1 : (madeCells #[Value.int .u8 0] m)[i]? = some (.int .u8 0) := by simp [madeCells, hi, Nat.mod_one]
      rw [Nat.zero_add, World.cell?_alloc_new]
      rw [h1]
      simp [List.getD_eq_getElem?_getD, hi]) 9 Try.underlying9
end Go.Proofs.Ytndcjleadggibaa.Oct

namespace Go.Proofs.Ytndcjleadggibaa.RdF
open Go.RowKit Go.PlainAid Go.Proofs.Ytndcjleadggibaa.Base Go.Proofs.Ytndcjleadggibaa.Oct Go.Proofs.Ytndcjleadggibaa.Sl Go.Proofs.Ytndcjleadggibaa.Nm Go.Proofs.Ytndcjleadggibaa.Rd Go.Lib
open Go.Proofs.Ytndcjleadggibaa.RdS (end_first end_mid append_empty extract_mid name_pos bt_mid)
set_option linter.unusedVariables false
set_option linter.unusedSimpArgs false
theorem k_awake (w : World) : Calls Try.prog 43 #[] w fun e w' => e = .returned (.bool true) ∧ Below w.heap.size w w' := by
  obtain ⟨k, hk⟩ := Go.Proofs.YtndcjleadggibaaW.PrintWords.Ev.rounds RdS.awake_ev
  exact PRz.wimplelaw4_awake.calls k true w hk
theorem k_may (t : Int) (s : ByteArray) (b : Bool) (w : World) (hs : s.size ≤ 9223372036854775000) (h : mayD t s = b) : Calls Try.prog 33 #[.int .i64 t, .string s] w fun e w' => e = .returned (.bool b) ∧ Below w.heap.size w w' := by
  have := dmay t s w hs
  rw [h] at this
  exact this
theorem k_rmay (s : ByteArray) (b : Bool) (w : World) (h : nameB s = b) : Calls Try.prog 44 #[.string s] w fun e w' => e = .returned (.bool b) ∧ Below w.heap.size w w' := by
  have := rmay s w
  rw [h] at this
  exact this
def two : ByteArray := ⟨#[97, 98]⟩
theorem ab_extract (h : ByteArray) : (two ++ h).extract 2 (two ++ h).size = h := by
  have := extract_mid two h (⟨#[]⟩ : ByteArray)
  rw [append_empty] at this
  rw [ByteArray.size_append]
  exact this
theorem f_1 (m : Nat) (hm : m ≤ 63) : mayD 1 (zeros m) = ((m : Int) == 4) := by
  rw [mayD_body (by decide) (by decide) (by rw [zeros_size]; omega), zeros_size, Bool.eq_iff_iff]; simp; omega
theorem f_28 (m : Nat) (hm : m ≤ 63) : mayD 28 (zeros m) = ((m : Int) == 16) := by
  rw [mayD_body (by decide) (by decide) (by rw [zeros_size]; omega), zeros_size, Bool.eq_iff_iff]; simp; omega
theorem f_2 (h : ByteArray) (hs : h.size ≤ 300) : mayD 2 h = nameB h := by rw [mayD_body (by decide) (by decide) (by omega)]; rfl
theorem f_5 (h : ByteArray) (hs : h.size ≤ 300) : mayD 5 h = nameB h := by rw [mayD_body (by decide) (by decide) (by omega)]; rfl
theorem f_12 (h : ByteArray) (hs : h.size ≤ 300) : mayD 12 h = nameB h := by rw [mayD_body (by decide) (by decide) (by omega)]; rfl
theorem f_15 (h : ByteArray) (hs : h.size ≤ 300) : mayD 15 (two ++ h) = nameB h := by
  have z : (two ++ h).size = 2 + h.size := by rw [ByteArray.size_append]; rfl
  rw [mayD_body (by decide) (by decide) (by omega), ab_extract, decide_eq_true (show 2 ≤ (two ++ h).size by omega)]; rfl
theorem f_15a : mayD 15 (⟨#[97]⟩ : ByteArray) = false := by rw [mayD_body (by decide) (by decide) (by decide)]; rfl
theorem f_6 (h : ByteArray) (hs : h.size ≤ 300) (hn : nameB h = true) : mayD 6 (h ++ h ++ zeros 20) = true := by
  have s1 := nameB_size hn
  have z : (h ++ h ++ zeros 20).size = h.size + h.size + 20 := by rw [ByteArray.size_append, ByteArray.size_append, zeros_size]
  have e1 : endN (h ++ h ++ zeros 20) 0 = ((h.size : Nat) : Int) := by rw [ByteArray.append_assoc]; exact end_first _ _ hn
  have e2 : endN (h ++ h ++ zeros 20) h.size = ((h.size + h.size : Nat) : Int) := end_mid _ _ _ hn
  rw [mayD_body (by decide) (by decide) (by omega)]
  have : soaB (h ++ h ++ zeros 20) = true := by
    unfold soaB
    rw [e1, Int.toNat_natCast, e2, z]
    simp only [Bool.and_eq_true, decide_eq_true_eq]
    omega
  rw [this]; rfl
theorem f_6n (h : ByteArray) (hs : h.size ≤ 300) (hn : nameB h = true) : mayD 6 h = false := by
  have s1 := nameB_size hn
  have e1 : endN h 0 = ((h.size : Nat) : Int) := by
    have := end_first h (⟨#[]⟩ : ByteArray) hn
    rw [append_empty] at this
    exact this
  have e2 : endN h h.size = -1 := endN_out rfl (Nat.le_refl _)
  rw [mayD_body (by decide) (by decide) (by omega)]
  have : soaB h = false := by
    unfold soaB
    rw [e1, Int.toNat_natCast, e2]; simp
  rw [this]; rfl
abbrev kz (k : Int) (m : Nat) : ByteArray := strOfNums [k] ++ zeros m
theorem kz_size (k : Int) (m : Nat) : (kz k m).size = 1 + m := by unfold kz; rw [ByteArray.size_append, strOfNums_size, zeros_size]; rfl
theorem kz_bt (k : Int) (m : Nat) (h0 : 0 ≤ k) (hk : k ≤ 64) : bt (kz k m) 0 = k := by
  unfold kz
  rw [bt_append_left _ _ _ (by rw [strOfNums_size]; simp)]
  exact bt_nums _ 0 _ rfl (by omega) (by omega)
theorem conv1 (p : Int) (W : World) (b : Nat) (h0 : W.cell? ⟨b, 0, none⟩ = some (.int .u8 p)) : (convert 54 9 (.slice (some ⟨b, 0, none⟩) 1 1)).run Try.prog W = .ok (.string (strOfNums [p])) W :=
  run_convert_bytes_arg (P := Try.prog) W 54 5 Try.underlying54 Try.underlying5 b 0 1 1 [p] rfl
    (fun i hi => by obtain rfl : i = 0 := by omega
                    exact h0) 9 Try.underlying9
theorem one_size (p : Int) : (strOfNums [p]).size = 1 := by simp [strOfNums_size]
theorem f_16 (m : Nat) (hm : m ≤ 63) : mayD 16 (kz (m : Int) m) = true := by
  have z := kz_size (m : Int) m
  rw [mayD_body (by decide) (by decide) (by omega)]
  have : textsB (kz (m : Int) m) = true := by
    unfold textsB
    rw [textsAt_next (by omega), kz_bt (m : Int) m (by omega) (by omega), textsAt_end (by omega), z, decide_eq_true (show 0 < 1 + m by omega), decide_eq_true (show 0 + 1 + (m : Int).toNat = 1 + m by omega)]; rfl
  rw [this]; rfl
theorem f_16n (m : Nat) (hm : m ≤ 63) : mayD 16 (kz ((m : Int) + 1) m) = false := by
  have z := kz_size ((m : Int) + 1) m
  rw [mayD_body (by decide) (by decide) (by omega)]
  have : textsB (kz ((m : Int) + 1) m) = false := by
    unfold textsB
    rw [textsAt_next (by omega), kz_bt ((m : Int) + 1) m (by omega) (by omega), textsAt_end (by omega), z, decide_eq_false (show ¬ 0 + 1 + ((m : Int) + 1).toNat = 1 + m by omega)]; simp
  rw [this]; rfl
theorem f_big (u : Int) (h0 : 0 ≤ u) (h1 : u ≤ 1023) (s : ByteArray) (hs : s.size ≤ 400) : mayD (1000 + u) s = true := by
  rw [mayD_body (by omega) (by omega) (by omega)]
  rw [if_neg (by omega), if_neg (by omega), if_neg (by omega), if_neg (by omega), if_neg (by omega), if_neg (by omega), if_neg (by omega), if_neg (by omega)]
theorem f_neg (u : Int) (h0 : 0 ≤ u) (s : ByteArray) : mayD (-u) s = false := by unfold mayD; rw [if_pos (by omega)]
theorem f_far (u : Int) (h0 : 0 ≤ u) (s : ByteArray) : mayD (65536 + u) s = false := by unfold mayD; rw [if_neg (by omega), if_pos (by omega)]
set_option maxRecDepth 100000 in
set_option maxHeartbeats 8000000 in
theorem walkYes (t sz : Int) (h : ByteArray) (m : Nat) (u : Int) (w : World) (hm : Go.bits .and .i64 sz 63 = (m : Int)) (hu : Go.bits .and .i64 t 1023 = u) (hm1 : m ≤ 63) (u0 : 0 ≤ u) (u1 : u ≤ 1023) (hs : h.size ≤ 300) (hn : nameB h = true) :
    Calls Try.prog 10 #[.int .i64 t, .int .i64 sz, .string h] w fun e w' => e = .returned (.bool true) ∧ Below w.heap.size w w' := by
  have q0 : decide ((300 : Int) < h.size) = false := by simp; omega
  have n1 : ¬ 9223372036854775807 < 2 + h.size := by omega
  have n2 : ¬ 9223372036854775807 < h.size + h.size := by omega
  have z20 := zeros_size 20
  have zm := zeros_size m
  have n3 : ¬ 9223372036854775807 < h.size + h.size + (zeros 20).size := by omega
  have n4 : ¬ 9223372036854775807 < 1 + (zeros m).size := by omega
  have n5 : ¬ 9223372036854775807 < (zeros m).size + h.size := by omega
  have g4 : (m : Int) ≤ 63 := by omega
  have g5 : (0 : Int) ≤ (m : Int) := by omega
  have HS := Lib.hid hs
  have HM := Lib.hid hm1
  have HN := Lib.hid hn
  have U0 := Lib.hid u0
  have U1 := Lib.hid u1
  have Z20 := Lib.hid z20
  have ZM := Lib.hid zm
  clear hs hm1 hn z20 zm
  go_enter Try.func10, Try.ntmps10
  go_wp2_with fail
  refine (k_awake _).mono ?_
  rintro e w1 ⟨rfl, hb1⟩
  have B1 := hb1
  have hmk := make_zeros m (by have := HM.out; omega) w1
  have hcv := conv_zeros m w1
  go_wp2_with fail
  refine (k_rmay _ true _ HN.out).mono ?_
  rintro e w2 ⟨rfl, hb2⟩
  have B2 := below_next (below_alloc B1 _) hb2
  clear hmk hcv
  go_wp2_with fail
  refine (k_may 1 (zeros m) ((m : Int) == 4) _ (by have := ZM.out; have := HM.out; omega) (f_1 m HM.out)).mono ?_
  rintro e w3 ⟨rfl, hb3⟩
  have B3 := below_next B2 hb3
  go_wp2_with fail
  refine (k_may 28 (zeros m) ((m : Int) == 16) _ (by have := ZM.out; have := HM.out; omega) (f_28 m HM.out)).mono ?_
  rintro e w4 ⟨rfl, hb4⟩
  have B4 := below_next B3 hb4
  go_wp2_with fail
  refine (k_may 2 h true _ (by have := HS.out; omega) ((f_2 h HS.out).trans HN.out)).mono ?_
  rintro e w5 ⟨rfl, hb5⟩
  have B5 := below_next B4 hb5
  go_wp2_with fail
  refine (k_may 5 h true _ (by have := HS.out; omega) ((f_5 h HS.out).trans HN.out)).mono ?_
  rintro e w6 ⟨rfl, hb6⟩
  have B6 := below_next B5 hb6
  go_wp2_with fail
  refine (k_may 12 h true _ (by have := HS.out; omega) ((f_12 h HS.out).trans HN.out)).mono ?_
  rintro e w7 ⟨rfl, hb7⟩
  have B7 := below_next B6 hb7
  go_wp2_with fail
  refine (k_may 15 (two ++ h) true _ (by rw [ByteArray.size_append]; have := HS.out; have : two.size = 2 := rfl; omega) ((f_15 h HS.out).trans HN.out)).mono ?_
  rintro e w8 ⟨rfl, hb8⟩
  have B8 := below_next B7 hb8
  go_wp2_with fail
  refine (k_may 15 _ false _ (by decide) f_15a).mono ?_
  rintro e w9 ⟨rfl, hb9⟩
  have B9 := below_next B8 hb9
  have hmk : (Instr.makeSlice 54 (.int .i64 20) (.int .i64 20)).run Try.prog w9 = .ok (.slice (some ⟨w9.heap.size, 0, none⟩) 20 20) (w9.alloc (.cells (madeCells #[.int .u8 0] 20) 5)) := make_zeros 20 (by omega) w9
  have hcv := conv_zeros 20 w9
  go_wp2_with fail
  refine (k_may 6 (h ++ h ++ zeros 20) true _ (by rw [ByteArray.size_append, ByteArray.size_append]; have := HS.out; have := Z20.out; omega) (f_6 h HS.out HN.out)).mono ?_
  rintro e w10 ⟨rfl, hb10⟩
  have B10 := below_next (below_alloc B9 _) hb10
  clear hmk hcv
  go_wp2_with fail
  refine (k_may 6 h false _ (by have := HS.out; omega) (f_6n h HS.out HN.out)).mono ?_
  rintro e w11 ⟨rfl, hb11⟩
  have B11 := below_next B10 hb11
  have hcv := conv1 (m : Int) (w11.alloc (.cells #[.int .u8 (m : Int)] 5)) w11.heap.size (by simp)
  have hos := one_size (m : Int)
  go_wp2_with fail
  clear hcv hos
  refine (k_may 16 (strOfNums [(m : Int)] ++ zeros m) true _ (by have hz : (strOfNums [(m : Int)] ++ zeros m).size = 1 + m := kz_size (m : Int) m; have := HM.out; omega) (f_16 m HM.out)).mono ?_
  rintro e w12 ⟨rfl, hb12⟩
  have B12 := below_next (below_alloc B11 _) hb12
  have hcv := conv1 ((m : Int) + 1) (w12.alloc (.cells #[.int .u8 ((m : Int) + 1)] 5)) w12.heap.size (by simp)
  have hos := one_size ((m : Int) + 1)
  go_wp2_with fail
  clear hcv hos
  refine (k_may 16 (strOfNums [(m : Int) + 1] ++ zeros m) false _ (by have hz : (strOfNums [(m : Int) + 1] ++ zeros m).size = 1 + m := kz_size ((m : Int) + 1) m; have := HM.out; omega) (f_16n m HM.out)).mono ?_
  rintro e w13 ⟨rfl, hb13⟩
  have B13 := below_next (below_alloc B12 _) hb13
  go_wp2_with fail
  refine (k_may (1000 + u) (zeros m ++ h) true _ (by rw [ByteArray.size_append]; have := HS.out; have := ZM.out; have := HM.out; omega) (f_big u U0.out U1.out _ (by rw [ByteArray.size_append]; have := HS.out; have := ZM.out; have := HM.out; omega))).mono ?_
  rintro e w14 ⟨rfl, hb14⟩
  have B14 := below_next B13 hb14
  go_wp2_with fail
  refine (k_may (-u) (zeros m) false _ (by have := ZM.out; have := HM.out; omega) (f_neg u U0.out _)).mono ?_
  rintro e w15 ⟨rfl, hb15⟩
  have B15 := below_next B14 hb15
  go_wp2_with fail
  refine (k_may (65536 + u) (zeros m) false _ (by have := ZM.out; have := HM.out; omega) (f_far u U0.out _)).mono ?_
  rintro e w16 ⟨rfl, hb16⟩
  have B16 := below_next B15 hb16
  go_wp2
  go_ret
  exact ⟨rfl, B16⟩
set_option maxRecDepth 100000 in
set_option maxHeartbeats 8000000 in
theorem walkNo (t sz : Int) (h : ByteArray) (m : Nat) (u : Int) (w : World) (hm : Go.bits .and .i64 sz 63 = (m : Int)) (hu : Go.bits .and .i64 t 1023 = u) (hm1 : m ≤ 63) (u0 : 0 ≤ u) (u1 : u ≤ 1023) (hs : h.size ≤ 300) (hn : nameB h = false) :
    Calls Try.prog 10 #[.int .i64 t, .int .i64 sz, .string h] w fun e w' => e = .returned (.bool true) ∧ Below w.heap.size w w' := by
  have q0 : decide ((300 : Int) < h.size) = false := by simp; omega
  have n1 : ¬ 9223372036854775807 < 2 + h.size := by omega
  have n2 : ¬ 9223372036854775807 < h.size + h.size := by omega
  have z20 := zeros_size 20
  have zm := zeros_size m
  have n3 : ¬ 9223372036854775807 < h.size + h.size + (zeros 20).size := by omega
  have n4 : ¬ 9223372036854775807 < 1 + (zeros m).size := by omega
  have n5 : ¬ 9223372036854775807 < (zeros m).size + h.size := by omega
  have g4 : (m : Int) ≤ 63 := by omega
  have g5 : (0 : Int) ≤ (m : Int) := by omega
  have HS := Lib.hid hs
  have HM := Lib.hid hm1
  have HN := Lib.hid hn
  have U0 := Lib.hid u0
  have U1 := Lib.hid u1
  have Z20 := Lib.hid z20
  have ZM := Lib.hid zm
  clear hs hm1 hn z20 zm
  go_enter Try.func10, Try.ntmps10
  go_wp2_with fail
  refine (k_awake _).mono ?_
  rintro e w1 ⟨rfl, hb1⟩
  have B1 := hb1
  have hmk := make_zeros m (by have := HM.out; omega) w1
  have hcv := conv_zeros m w1
  go_wp2_with fail
  refine (k_rmay _ false _ HN.out).mono ?_
  rintro e w2 ⟨rfl, hb2⟩
  have B2 := below_next (below_alloc B1 _) hb2
  clear hmk hcv
  go_wp2_with fail
  refine (k_may 1 (zeros m) ((m : Int) == 4) _ (by have := ZM.out; have := HM.out; omega) (f_1 m HM.out)).mono ?_
  rintro e w3 ⟨rfl, hb3⟩
  have B3 := below_next B2 hb3
  go_wp2_with fail
  refine (k_may 28 (zeros m) ((m : Int) == 16) _ (by have := ZM.out; have := HM.out; omega) (f_28 m HM.out)).mono ?_
  rintro e w4 ⟨rfl, hb4⟩
  have B4 := below_next B3 hb4
  go_wp2_with fail
  refine (k_may 2 h false _ (by have := HS.out; omega) ((f_2 h HS.out).trans HN.out)).mono ?_
  rintro e w5 ⟨rfl, hb5⟩
  have B5 := below_next B4 hb5
  go_wp2_with fail
  refine (k_may 5 h false _ (by have := HS.out; omega) ((f_5 h HS.out).trans HN.out)).mono ?_
  rintro e w6 ⟨rfl, hb6⟩
  have B6 := below_next B5 hb6
  go_wp2_with fail
  refine (k_may 12 h false _ (by have := HS.out; omega) ((f_12 h HS.out).trans HN.out)).mono ?_
  rintro e w7 ⟨rfl, hb7⟩
  have B7 := below_next B6 hb7
  go_wp2_with fail
  refine (k_may 15 (two ++ h) false _ (by rw [ByteArray.size_append]; have := HS.out; have : two.size = 2 := rfl; omega) ((f_15 h HS.out).trans HN.out)).mono ?_
  rintro e w8 ⟨rfl, hb8⟩
  have B8 := below_next B7 hb8
  go_wp2_with fail
  refine (k_may 15 _ false _ (by decide) f_15a).mono ?_
  rintro e w9 ⟨rfl, hb9⟩
  have B9 := below_next B8 hb9
  have hmk : (Instr.makeSlice 54 (.int .i64 20) (.int .i64 20)).run Try.prog w9 = .ok (.slice (some ⟨w9.heap.size, 0, none⟩) 20 20) (w9.alloc (.cells (madeCells #[.int .u8 0] 20) 5)) := make_zeros 20 (by omega) w9
  have hcv := conv1 (m : Int) (w9.alloc (.cells #[.int .u8 (m : Int)] 5)) w9.heap.size (by simp)
  have hos := one_size (m : Int)
  iterate 14 (first | go_values | go_skip | go_guarded | go_step | go_upon | go_back | (simp only [Int.not_lt, Int.not_le] at *; go_simp))
  simp only [List.append]
  go_skip
  go_wp2_with fail
  clear hcv hos
  refine (k_may 16 (strOfNums [(m : Int)] ++ zeros m) true _ (by have hz : (strOfNums [(m : Int)] ++ zeros m).size = 1 + m := kz_size (m : Int) m; have := HM.out; omega) (f_16 m HM.out)).mono ?_
  rintro e w10 ⟨rfl, hb10⟩
  have B10 := below_next (below_alloc B9 _) hb10
  have hcv := conv1 ((m : Int) + 1) (w10.alloc (.cells #[.int .u8 ((m : Int) + 1)] 5)) w10.heap.size (by simp)
  have hos := one_size ((m : Int) + 1)
  go_wp2_with fail
  clear hcv hos
  refine (k_may 16 (strOfNums [(m : Int) + 1] ++ zeros m) false _ (by have hz : (strOfNums [(m : Int) + 1] ++ zeros m).size = 1 + m := kz_size ((m : Int) + 1) m; have := HM.out; omega) (f_16n m HM.out)).mono ?_
  rintro e w11 ⟨rfl, hb11⟩
  have B11 := below_next (below_alloc B10 _) hb11
  go_wp2_with fail
  refine (k_may (1000 + u) (zeros m ++ h) true _ (by rw [ByteArray.size_append]; have := HS.out; have := ZM.out; have := HM.out; omega) (f_big u U0.out U1.out _ (by rw [ByteArray.size_append]; have := HS.out; have := ZM.out; have := HM.out; omega))).mono ?_
  rintro e w12 ⟨rfl, hb12⟩
  have B12 := below_next B11 hb12
  go_wp2_with fail
  refine (k_may (-u) (zeros m) false _ (by have := ZM.out; have := HM.out; omega) (f_neg u U0.out _)).mono ?_
  rintro e w13 ⟨rfl, hb13⟩
  have B13 := below_next B12 hb13
  go_wp2_with fail
  refine (k_may (65536 + u) (zeros m) false _ (by have := ZM.out; have := HM.out; omega) (f_far u U0.out _)).mono ?_
  rintro e w14 ⟨rfl, hb14⟩
  have B14 := below_next B13 hb14
  go_wp2
  go_ret
  exact ⟨rfl, B14⟩
theorem formsWalk (t sz : Int) (h : ByteArray) (w : World) (w0 : (Lit.int .i64 t).wf = true) (w1 : (Lit.int .i64 sz).wf = true) (w2 : h.size ≤ 140737488351232) :
    Calls Try.prog 10 #[.int .i64 t, .int .i64 sz, .string h] w fun e w' => e = .returned (.bool true) ∧ Below w.heap.size w w' := by
  by_cases hs : h.size ≤ 300
  · have e1 : Go.bits .and .i64 sz 63 = sz % 64 := and_mask 6 (by decide) sz
    have e2 : Go.bits .and .i64 t 1023 = t % 1024 := and_mask 10 (by decide) t
    obtain ⟨m, hm⟩ := Int.eq_ofNat_of_zero_le (show 0 ≤ sz % 64 by omega)
    cases hn : nameB h with
    | true => exact walkYes t sz h m (t % 1024) w (e1.trans hm) e2 (by omega) (by omega) (by omega) hs hn
    | false => exact walkNo t sz h m (t % 1024) w (e1.trans hm) e2 (by omega) (by omega) (by omega) hs hn
  · have q0 : decide ((300 : Int) < h.size) = true := by simp; omega
    clear hs
    go_enter Try.func10, Try.ntmps10
    go_wp2_with fail
    refine (k_awake _).mono ?_
    rintro e w1 ⟨rfl, hb1⟩
    go_wp2
    go_ret
    exact ⟨rfl, hb1⟩
end Go.Proofs.Ytndcjleadggibaa.RdF

namespace Go.Proofs.Ytndcjleadggibaa.rdataForms
open Go.ChangeShapes Go.WideShapes Go.ChangeAt Go.RowKit
open Go.ChangeMaps (open_string shut_string)
set_option linter.unusedVariables false
theorem own : ownKnob Try.prog.godebug = none := by kernel_rfl
set_option maxRecDepth 100000 in
theorem lifted (os : Os) (started : os.Started) (H : Type) (enc : TypeId × Value → H) :
    ReturnsInHanded {} Try.checked os 10 .any (Rows.rdataFormsSpec.pre6 enc Try.prog Try.f10 Rows.rdataFormsRow.domain false) (Rows.rdataFormsSpec.post enc Try.prog Try.f10 false true false false) := by
  refine returnsInHanded_of_change_sized (C := Try.checked) own started (by kernel_rfl) Try.func10
    (ChangeSpec.witness6 (enc := enc) (C := Try.checked) false ⟨#[], #[.int .i64 0, .int .i64 0, .string ByteArray.empty], []⟩ 8 (by kernel_rfl) (by kernel_rfl) (by kernel_rfl) (by kernel_rfl)) ?_
  intro W base args ds gs before hval0 hW hcnd hsz0 _
  have hsz : (DataW.weightsEach Try.prog (Try.f10.params.toList ++ Rows.rdataFormsSpec.plain.varTypes Try.prog) (ds ++ gs)).all (· ≤ reachBytes) = true := hsz0
  have hval : ∀ (j : Nat) t v, Try.f10.params[j]? = some t → args[j]? = some v → Value.okWide Try.prog W .any base t v := hval0
  have hW' := hW
  obtain ⟨p, q, hA0, hV, rfl, hfz, hnd⟩ := hW
  have hA : DataW.TrodAll enc Try.prog W 0 (fun _ => true) true Try.f10.params.toList args.toList ds p := hA0
  rw [Try.params10] at hA hval hsz
  obtain ⟨v0, vs0, d0, ds0, p0, q0, hargs, rfl, rfl, h0, r0⟩ := trodAll_cons hA
  obtain ⟨v1, vs1, d1, ds1, p1, q1, rfl, rfl, rfl, h1, r1⟩ := trodAll_cons r0
  obtain ⟨v2, vs2, d2, ds2, p2, q2, rfl, rfl, rfl, h2, r2⟩ := trodAll_cons r1
  obtain ⟨rfl, rfl, rfl⟩ := trodAll_nil r2
  obtain rfl : args = #[v0, v1, v2] := by cases args; simp_all
  obtain ⟨rfl, rfl⟩ := trodVars_none hV
  obtain ⟨a0, rfl, rfl, rfl, w0⟩ := open_int Try.underlying3 (hval 0 3 v0 rfl rfl) h0
  obtain ⟨a1, rfl, rfl, rfl, w1⟩ := open_int Try.underlying3 (hval 1 3 v1 rfl rfl) h1
  obtain ⟨a2, rfl, rfl, rfl, y2⟩ := open_string Try.underlying9 (hval 2 9 v2 rfl rfl) h2
  have w2 : a2.size ≤ 140737488351232 := by
    have z := sized_string hsz (j := 2) (t := 9) rfl rfl
    rw [Array.length_toList] at z
    exact z
  clear hA0 hval0 hsz0 hsz
  refine (RdF.formsWalk a0 a1 a2 W w0 w1 w2).mono fun e W' ⟨he, bel⟩ => ?_
  subst he
  exact ⟨_, rfl, _, _, _, [], _, [], hW', trodAll_mk1 (shut_bool Try.underlying4 _), (trodAll_cons_mk (shut_int Try.underlying3 w0) (trodAll_cons_mk (shut_int Try.underlying3 w1) (trodAll_cons_mk (shut_string Try.underlying9 y2) trodAll_mk0))), rfl, bel.frame _, fun h => by cases h⟩
theorem over : Rows.rdataFormsRow.holds Try.pinned (OpenSpec.ofChange Rows.rdataFormsSpec) :=
  OpenClaim.holds_of_wide 10 Try.f10 rfl rfl rfl rfl rfl rfl rfl ⟨rfl, rfl, rfl, rfl, rfl⟩ rfl rfl rfl rfl rfl (by kernel_rfl) Try.func10 (by kernel_rfl)
    (of_decide_eq_true (by kernel_rfl)) (by unfold Func.isWrapper; first | (rw [if_pos (by decide +kernel)]; kernel_rfl) | (rw [if_neg (by decide +kernel)]; exact ⟨rfl, rfl⟩))
    (fun os started H enc _ => lifted os started H enc)
end Go.Proofs.Ytndcjleadggibaa.rdataForms
namespace Go.Proofs.Ytndcjleadggibaa
theorem rdataForms_holds : Rows.RdataFormsSaid := rdataForms.over
end Go.Proofs.Ytndcjleadggibaa
