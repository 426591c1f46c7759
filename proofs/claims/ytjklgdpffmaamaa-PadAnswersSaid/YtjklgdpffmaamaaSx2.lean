/- A law's arguments laid open as Lean's own data: what each kind of data reads as, where nothing that was read weighs more than the reach. -/
import Derived.Test.YtjklgdpffmaamaaRows
import Derived.WalkKit
import Derived.ProofKit
import Derived.ChangeArms
import Derived.DataReads
import Derived.SizedLaws
import Derived.Laws.BitsLemmas
import Derived.Laws.BytesArg
import Derived.RowKit
import Derived.IntWalk
import Derived.PlainAid
import Derived.Below
import Derived.Lib.QuietBelow
import Derived.Test.YtjklgdpffmaamaaProg
import Derived.KernelRfl
import Derived.BigQuiet
import Derived.Deep.QuietTactic
import Derived.WalkLawsBesides
import Derived.Deep.AppendLies
import Derived.Laws.OwnMore
import Derived.OwnWalk
import Derived.Lib.Hide
import Derived.Deep.LoopGhost
import Derived.Maps.OwnSet
import Derived.Deep.CutBlock
import Derived.Deep.OwnRows
import Derived.Deep.RegionHeld3
import Derived.BigRegion
import Derived.RegionTactic
import Derived.Laws.StructEq
import Derived.ChangeKeysEq
import Derived.Deep.RegionWith
import Derived.Deep.Draws
import Derived.Maps.AppendAt
import Derived.Laws.MakeOwn
import Derived.Tactics
import Derived.Lib.ConvBytes
import Derived.Laws.Slices
import Derived.RowKit3
import Derived.WideLaws
import Derived.Deep.DeepCutAuto
import Derived.Laws.Rows
import Derived.Lib.AppendStr
import Derived.ArgAppend
import Derived.Laws.IdiomCopy
import Derived.OrdersHeld
import Derived.Test.YtjklgdpffmaamaaSx1
namespace Go.Proofs.Ytjklgdpffmaamaa.OpenZd
open Go.ChangeShapes Go.WideShapes Go.ChangeAt Go.RowKit Go.Proofs.YtjklgdpffmaamaaW.PrintWords
set_option linter.unusedVariables false
theorem add_two (a : Addr) (i j : Nat) : (a.add i).add j = a.add (i + j) := by
  unfold Addr.add
  by_cases hi : i = 0
  · simp [hi]
  · by_cases hj : j = 0
    · simp [hj]
    · simp [hi, hj, Nat.add_assoc]
theorem weights_all {H : Type} {P : Program} {e : TypeId} : ∀ {ds : List (DataW H)} {d : DataW H}, d ∈ ds → ∀ n ∈ d.weights P e, n ∈ DataW.weightsAll P e ds
  | [], _, h, _, _ => by cases h
  | x :: xs, d, h, n, hn => by
    rcases List.mem_cons.1 h with rfl | h
    · simp only [DataW.weightsAll, List.mem_append]; exact Or.inl hn
    · simp only [DataW.weightsAll, List.mem_append]; exact Or.inr (weights_all h n hn)
section
variable {H : Type} (enc : TypeId × Value → H) (P : Program) (W : World) (base : Nat) (spare : Nat → Bool) (held : Bool)
/-- Nothing of it weighs more than the reach. -/
def Light (t : TypeId) (d : DataW H) : Prop := ∀ n ∈ d.weights P t, n ≤ reachBytes
/-- Each datum of the type reads as a value of the kind; what is known of it. -/
def Opens {α : Type} (t : TypeId) (d : Kd α) (ok : α → Prop) : Prop :=
  ∀ fuel cs y, DataW.trod enc P W base spare held fuel t cs = some y → Light P t y.1 → ∃ x, d.K W x cs ∧ ok x
theorem opens_int {t : TypeId} {k : IntKind} (hu : P.underlying t = some (.int k)) : Opens enc P W base spare held t (Kd.int k) (fun x => (Lit.int k x).wf = true) := by
  intro fuel cs y h _
  obtain ⟨n, rfl, rfl, hw⟩ := DataW.trod_int hu h
  exact ⟨n, rfl, hw⟩
theorem opens_bool {t : TypeId} (hu : P.underlying t = some .bool) : Opens enc P W base spare held t Kd.bool (fun _ => True) := by
  intro fuel cs y h _
  obtain ⟨n, rfl, rfl⟩ := DataW.trod_bool hu h
  exact ⟨n, rfl, trivial⟩
theorem opens_string {t : TypeId} (hu : P.underlying t = some .string) : Opens enc P W base spare held t Kd.string (fun s => s.size ≤ 140737488351232) := by
  intro fuel cs y h hl
  obtain ⟨s, rfl, rfl, hw⟩ := DataW.trod_string hu h
  refine ⟨s, rfl, ?_⟩
  have := hl s.data.toList.length (by simp [DataW.weights])
  rw [Array.length_toList] at this
  exact this
variable {enc P W base spare held}
/-- A slice of elements of a kind: its value, and that it reads as a list. -/
theorem open_slice {α : Type} {t e : TypeId} {d : Kd α} {ok : α → Prop} (hu : P.underlying t = some (.slice e)) (hsz : P.cellsOf e = d.sz) (ho : Opens enc P W base spare held e d ok)
    {fuel : Nat} {cs : List Value} {y : DataW H × List MemPlace} (h : DataW.trod enc P W base spare held fuel t cs = some y) (hl : Light P t y.1) :
    ∃ (A : Option Addr) (xs : List α) (c : Nat), cs = [.slice A xs.length c] ∧ xs.length ≤ c ∧ d.C W A xs.length xs ∧ (xs.length * P.bytesOf e ≤ 140737488351232 ∧ ∀ x ∈ xs, ok x) := by
  rcases DataW.trod_slice hu h with ⟨rfl, rfl⟩ | ⟨a, len, cap, elems, rest, n, _, rfl, rfl, hb, hln, hm, hlen, hel, hsp, hns⟩
  · exact ⟨none, [], 0, rfl, Nat.le_refl _, ⟨rfl, by simp, fun h => by simp at h⟩, by simp⟩
  have light : ∀ i (hi : i < elems.length), Light P e elems[i].1 := by
    intro i hi w hw
    refine hl w ?_
    simp only [DataW.weights, hu, List.mem_cons, List.mem_append]
    exact Or.inr (Or.inl (weights_all (d := elems[i].1) (List.mem_map.2 ⟨elems[i], List.getElem_mem hi, rfl⟩) w hw))
  have key : ∀ m, m ≤ len → ∃ xs : List α, xs.length = m ∧ (∀ x ∈ xs, ok x) ∧
      ∀ i (hi : i < xs.length), ∃ c, c.length = d.sz ∧ d.K W xs[i] c ∧ ∀ j u, c[j]? = some u → W.cell? (a.add (i * d.sz + j)) = some u := by
    intro m
    induction m with
    | zero => exact fun _ => ⟨[], rfl, by simp, by simp⟩
    | succ m ih =>
      intro hm'
      obtain ⟨xs, hx, h1, h3⟩ := ih (by omega)
      have hi : m < elems.length := by omega
      have e0 := hel m (by omega)
      rw [List.getElem?_eq_getElem hi, Option.bind_eq_some_iff] at e0
      obtain ⟨c, hc, ht⟩ := e0
      obtain ⟨x, hk, hok⟩ := ho _ _ _ ht (light m hi)
      obtain ⟨_, hcl, hcc⟩ := World.cells?_some hc
      rw [hsz] at hcl hcc
      refine ⟨xs ++ [x], by simp [hx], ?_, ?_⟩
      · intro z hz
        rcases List.mem_append.1 hz with hz | hz
        · exact h1 z hz
        · rw [List.mem_singleton.1 hz]; exact hok
      · intro i hi2
        by_cases hlt : i < xs.length
        · rw [List.getElem_append_left hlt]; exact h3 i hlt
        · have : i = m := by rw [List.length_append, List.length_singleton] at hi2; omega
          subst this
          rw [List.getElem_append_right (by omega)]
          refine ⟨c, hcl, by simpa using hk, fun j u hj => ?_⟩
          have hj' : j < d.sz := by rw [← hcl]; exact (List.getElem?_eq_some_iff.1 hj).1
          have := hcc j hj'
          rw [hj] at this
          rw [← this, add_two]
  obtain ⟨xs, hx, h1, h3⟩ := key len (Nat.le_refl _)
  refine ⟨some a, xs, cap, by rw [hx], by omega, ⟨rfl, by unfold maxLen at hm; omega, fun _ => ⟨a, rfl, fun j p hj => ?_⟩⟩, ?_, h1⟩
  · obtain ⟨hj', rfl⟩ := List.getElem?_eq_some_iff.1 hj
    exact h3 j hj'
  · have := hl ((elems.map (·.1)).length + (rest.map (·.1)).length |> (· * P.bytesOf e)) (by simp [DataW.weights, hu])
    have h2 : xs.length * P.bytesOf e ≤ ((elems.map (·.1)).length + (rest.map (·.1)).length) * P.bytesOf e := Nat.mul_le_mul_right _ (by rw [List.length_map]; omega)
    exact Nat.le_trans h2 this
variable (enc P W base spare held)
theorem opens_slice {α : Type} {t e : TypeId} {d : Kd α} {ok : α → Prop} (hu : P.underlying t = some (.slice e)) (hsz : P.cellsOf e = d.sz) (ho : Opens enc P W base spare held e d ok) :
    Opens enc P W base spare held t (Kd.slice e d) (fun xs => xs.length * P.bytesOf e ≤ 140737488351232 ∧ ∀ x ∈ xs, ok x) := by
  intro fuel cs y h hl
  obtain ⟨A, xs, c, rfl, hlen, hC, h1⟩ := open_slice hu hsz ho h hl
  exact ⟨xs, ⟨A, c, rfl, hlen, hC⟩, h1⟩
theorem light_each {ts : List TypeId} {ds : List (DataW H)} (h : (DataW.weightsEach P ts ds).all (· ≤ reachBytes) = true) {j : Nat} {t : TypeId} {d : DataW H} (ht : ts[j]? = some t) (hd : ds[j]? = some d) : Light P t d := fun n hn => by
  have := List.all_eq_true.1 h n (DataW.weights_mem_each ht hd n hn)
  simpa using this
theorem light_part {t : TypeId} {fs : Array Field} (hu : P.underlying t = some (.struct fs)) {parts : List (DataW H)} (h : Light P t (.agg parts)) {j : Nat} {u : TypeId} {d : DataW H} (ht : (fs.toList.map (·.type))[j]? = some u) (hd : parts[j]? = some d) : Light P u d := fun n hn => by
  refine h n ?_
  simp only [DataW.weights, hu]
  exact DataW.weights_mem_each ht hd n hn
end
end Go.Proofs.Ytjklgdpffmaamaa.OpenZd

namespace Go.Proofs.Ytjklgdpffmaamaa.StepStr
open Go.RowKit Go.Proofs.YtjklgdpffmaamaaW.PrintWords
set_option linter.unusedVariables false
section
variable {P : Program} {ops : Array Oper} {o : Oper} {a : Act} {Q : Exit → Act → World → Prop} {K : Act → World → Prop}
theorem step_append_str {w0 W : World} (base : Nat) (hw : Region.wanted o (yielded ops a.tmps) = true) (s x : Operand) (t u e : TypeId)
    (ho : o.op = .call { callee := .builtin .append, args := #[s, x], argTypes := #[t, u] })
    (ht : P.underlying t = some (.slice e)) (hu : P.underlying u = some .string) (hinfo : (P.info? e).map (fun i => (i.zero, i.size, i.bytes)) = some (some (.int .u8 0), 1, 1))
    (v : Value) (xs : List Int) (y : ByteArray) (hs : a.eval s = v) (hx : a.eval x = .string y)
    (HO : W.ownsRow base e 1 v xs.length (nums .u8 xs)) (HB : Below base w0 W) (hbase : base ≤ W.heap.size) (hl : xs.length + y.size ≤ 140737488355328)
    (h : ∀ v1 w1, w1.ownsRow base e 1 v1 (xs ++ bytesOf y).length (nums .u8 (xs ++ bytesOf y)) → Below base w0 w1 → W.grownBy w1 v.ownBlock → K (a.put o.dst v1) w1) :
    if Region.wanted o (yielded ops a.tmps) = true then Oper.wp P o a W K Q else K (a.put o.dst undef) W := by
  obtain ⟨i0, hi, hzz⟩ := Option.map_eq_some_iff.1 hinfo
  simp only [Prod.mk.injEq] at hzz
  obtain ⟨hz0, hz1, hz2⟩ := hzz
  rw [if_pos hw]
  obtain ⟨v1, w1, hr, hown, hg, _⟩ := Lib.run_append_own_string (P := P) W base t u o.type e i0 ht hu hi hz0 hz1 hz2 v xs.length (nums .u8 xs) HO y (by simp only [maxLen]; omega) hl hbase
  have hl2 : (xs ++ bytesOf y).length = xs.length + y.size := by rw [List.length_append, bytesOf_length]
  have hc : nums .u8 (xs ++ bytesOf y) = nums .u8 xs ++ Lib.strCells y := by
    rw [nums_append]
    congr 1
    simp [nums, bytesOf, Lib.strCells]
  unfold Oper.wp execOp
  simp only [ho, resolve, invoke, builtin, Sem.run_bind, Sem.run_pure, Result.andThen_ok, List.map_toArray, List.map_cons, List.map_nil, hs, hx, hr]
  exact h v1 w1 (by rw [hl2, hc]; exact hown) (HB.grown hg hbase (own_base HO)) hg
end
end Go.Proofs.Ytjklgdpffmaamaa.StepStr

namespace Go.Proofs.Ytjklgdpffmaamaa.Base
open Go.RowKit Go.PlainAid

theorem wraps_i64 (n : Int) (h0 : 0 ≤ n) (h1 : n < 2 ^ 63) : IntKind.i64.wrap n = n := by
  rw [IntKind.wrap_i64]; omega

theorem or_shl8 (a b : Int) (ha : 0 ≤ a) (ha' : a ≤ 36028797018963967) (hb : 0 ≤ b) (hb' : b ≤ 255) : Go.bits .or .i64 (a * 256) b = a * 256 + b :=
  bits_join .i64 63 (by decide) wraps_i64 8 (a * 256) b (by omega) (by omega) (by omega) hb (by omega) (by omega)

theorem and_mask (i : Nat) (hi : i ≤ 63) (x : Int) : Go.bits .and .i64 x (2 ^ i - 1) = x % 2 ^ i := by
  have hpos : 0 < 2 ^ i := Nat.two_pow_pos i
  have hle : 2 ^ i ≤ 2 ^ 63 := Nat.pow_le_pow_right (by decide) hi
  have hc : ((2 : Int) ^ i - 1) = ((2 ^ i - 1 : Nat) : Int) := by rw [Int.natCast_sub hpos]; simp
  have hm : (2 ^ i - 1) % 2 ^ 64 = 2 ^ i - 1 := Nat.mod_eq_of_lt (by omega)
  have hx : (BitVec.ofInt 64 x).toNat = (x % 18446744073709551616).toNat := by simp [BitVec.toNat_ofInt]
  have e : ((x % 18446744073709551616).toNat : Int) = x % 18446744073709551616 := by omega
  have hd : (2 : Int) ^ i ∣ 18446744073709551616 := by
    have : (18446744073709551616 : Int) = 2 ^ i * 2 ^ (64 - i) := by rw [← Int.pow_add]; rw [show i + (64 - i) = 64 by omega]; decide
    exact ⟨_, this⟩
  rw [hc]
  show IntKind.i64.wrap (((BitVec.ofInt 64 x &&& BitVec.ofInt 64 ((2 ^ i - 1 : Nat) : Int)).toNat : Nat) : Int) = _
  rw [BitVec.toNat_and, BitVec.ofInt_natCast, BitVec.toNat_ofNat, hm, hx, Nat.and_two_pow_sub_one_eq_mod]
  have e2 : (((x % 18446744073709551616).toNat % 2 ^ i : Nat) : Int) = x % 2 ^ i := by
    rw [Int.natCast_emod, e]; push_cast
    exact Int.emod_emod_of_dvd _ hd
  rw [e2]
  have h2 : (0 : Int) < 2 ^ i := by exact_mod_cast hpos
  have h3 : (2 : Int) ^ i ≤ 2 ^ 63 := by exact_mod_cast hle
  have := Int.emod_nonneg x (Int.ne_of_gt h2)
  have := Int.emod_lt_of_pos x h2
  exact wraps_i64 _ (by assumption) (by omega)

theorem and_1 (x : Int) : Go.bits .and .i64 x 1 = x % 2 := and_mask 1 (by decide) x

theorem w64 {x : Int} (h0 : -9223372036854775808 ≤ x) (h1 : x ≤ 9223372036854775807) : wrap64 x = x := IntWalk.wrap64_in x ⟨h0, h1⟩

/-! ### Strings and their bytes -/
theorem len_data (s : ByteArray) : s.data.toList.length = s.size := by rw [Array.length_toList]; rfl
theorem bt_data (s : ByteArray) (i : Nat) : bt s i = ((s.data.toList.getD i 0).toNat : Int) := by
  unfold bt
  split
  · rename_i h
    have : i < s.data.toList.length := by rw [len_data]; exact h
    rw [List.getD_eq_getElem?_getD, List.getElem?_eq_getElem this]
    rfl
  · rename_i h
    rw [List.getD_eq_getElem?_getD, List.getElem?_eq_none (by rw [len_data]; omega)]
    rfl
theorem bt_append_right (s t : ByteArray) (i : Nat) (h : s.size ≤ i) : bt (s ++ t) i = bt t (i - s.size) := by
  rw [bt_data, bt_data, ByteArray.data_append, Array.toList_append, List.getD_eq_getElem?_getD, List.getD_eq_getElem?_getD, List.getElem?_append_right (by rw [len_data]; omega), len_data]
theorem bt_append_left (s t : ByteArray) (i : Nat) (h : i < s.size) : bt (s ++ t) i = bt s i := by
  rw [bt_data, bt_data, ByteArray.data_append, Array.toList_append, List.getD_eq_getElem?_getD, List.getD_eq_getElem?_getD, List.getElem?_append_left (by rw [len_data]; omega)]
theorem bt_nums (xs : List Int) (i : Nat) (x : Int) (h : xs[i]? = some x) (h0 : 0 ≤ x) (h1 : x < 256) : bt (strOfNums xs) i = x := by
  rw [bt_data, strOfNums_data, List.getD_eq_getElem?_getD, List.getElem?_map, h]
  show ((UInt8.ofNat x.toNat).toNat : Int) = x
  rw [UInt8.toNat_ofNat']
  omega
theorem strOfNums_append (xs ys : List Int) : strOfNums xs ++ strOfNums ys = strOfNums (xs ++ ys) := by
  apply ByteArray.ext
  apply Array.ext'
  simp [strOfNums, ByteArray.data_append]

/-! ### Worlds -/
theorem below_then {B : Nat} {w w1 w2 : World} (h : Below B w w1) (hB : B ≤ w1.heap.size) (k : Below w1.heap.size w1 w2) : Below B w w2 :=
  h.trans ⟨k.os, k.tape, k.output, k.size, fun i hi => k.block i (Nat.lt_of_lt_of_le hi hB)⟩
theorem below_drew {B : Nat} {w W : World} (h : Below B w W) : Below B w W.drew := ⟨h.os, h.tape, h.output, h.size, h.block⟩
theorem below_alloc {w W : World} (h : Below w.heap.size w W) (o : Obj) : Below w.heap.size w (W.alloc o) := h.alloc h.size o
theorem below_next {w w1 w2 : World} (h : Below w.heap.size w w1) (k : Below w1.heap.size w1 w2) : Below w.heap.size w w2 := below_then h h.size k
/-- What was there reads as before. -/
theorem bcell {w w1 : World} (h : Below w.heap.size w w1) {a : Addr} {v : Value} (hc : w.cell? a = some v) : w1.cell? a = some v := (h.cell (World.block_lt_of_cell? w a hc)).trans hc
end Go.Proofs.Ytjklgdpffmaamaa.Base

namespace Go.Proofs.Ytjklgdpffmaamaa.Oct
open Go.RowKit Go.PlainAid Go.Proofs.Ytjklgdpffmaamaa.Base
set_option linter.unusedVariables false

/-- Two bytes as a number; four. -/
def be2 (s : ByteArray) (i : Nat) : Int := bt s i * 256 + bt s (i + 1)
def be4 (s : ByteArray) (i : Nat) : Int := ((bt s i * 256 + bt s (i + 1)) * 256 + bt s (i + 2)) * 256 + bt s (i + 3)
theorem be2_bd (s : ByteArray) (i : Nat) : 0 ≤ be2 s i ∧ be2 s i ≤ 65535 := by
  have h0 := bt_nonneg s i; have h1 := bt_nonneg s (i + 1); have k0 := bt_le s i; have k1 := bt_le s (i + 1)
  unfold be2; omega
/-- A number's two lowest bytes; its four. -/
def p16 (x : Int) : ByteArray := strOfNums [(x / 256) % 256, x % 256]
def p32 (x : Int) : ByteArray := strOfNums [(x / 16777216) % 256, (x / 65536) % 256, (x / 256) % 256, x % 256]
theorem p16_size (x : Int) : (p16 x).size = 2 := by simp [p16, strOfNums_size]
theorem p32_size (x : Int) : (p32 x).size = 4 := by simp [p32, strOfNums_size]
theorem or_step (a b : Int) (ha : 0 ≤ a) (ha' : a ≤ 36028797018963967) (hb : 0 ≤ b) (hb' : b ≤ 255) : Go.bits .or .i64 (wrap64 (a * 256)) (wrap64 b) = a * 256 + b := by
  rw [w64 (by omega) (by omega), w64 (by omega) (by omega), or_shl8 _ _ ha ha' hb hb']
theorem or_first (b : Int) (hb : 0 ≤ b) (hb' : b ≤ 255) : Go.bits .or .i64 0 (wrap64 b) = b := by
  have := or_shl8 0 b (by omega) (by omega) hb hb'
  rw [w64 (by omega) (by omega)]; simpa using this
theorem or2 (s : ByteArray) (i : Nat) : Go.bits .or .i64 (wrap64 (Go.bits .or .i64 0 (wrap64 (bt s i)) * 256)) (wrap64 (bt s (i + 1))) = be2 s i := by
  have h0 := bt_nonneg s i; have h1 := bt_nonneg s (i + 1); have k0 := bt_le s i; have k1 := bt_le s (i + 1)
  rw [or_first _ h0 k0, or_step _ _ h0 (by omega) h1 k1]; rfl
theorem or4 (s : ByteArray) (i : Nat) : Go.bits .or .i64 (wrap64 (Go.bits .or .i64 (wrap64 (Go.bits .or .i64 (wrap64 (Go.bits .or .i64 0 (wrap64 (bt s i)) * 256)) (wrap64 (bt s (i + 1))) * 256)) (wrap64 (bt s (i + 2))) * 256)) (wrap64 (bt s (i + 3))) = be4 s i := by
  have h0 := bt_nonneg s i; have h1 := bt_nonneg s (i + 1); have k0 := bt_le s i; have k1 := bt_le s (i + 1)
  have h2 := bt_nonneg s (i + 2); have h3 := bt_nonneg s (i + 3); have k2 := bt_le s (i + 2); have k3 := bt_le s (i + 3)
  rw [or2, show be2 s i = bt s i * 256 + bt s (i + 1) from rfl, or_step _ _ (by omega) (by omega) h2 k2, or_step _ _ (by omega) (by omega) h3 k3]; rfl

set_option maxHeartbeats 400000 in
theorem rnum2 (s : ByteArray) (i : Nat) (w : World) (hs : s.size ≤ 9223372036854775000) (h : i + 2 ≤ s.size) :
    Calls Try.prog 54 #[.string s, .int .i64 i, .int .i64 2] w fun e w' => e = .returned (.tuple #[.int .i64 (be2 s i), .int .i64 (i + 2), .int .i64 0]) ∧ w = w' := by
  have q0 : decide ((i : Int) < 0) = false := by simp
  have hb := get_bt s
  go_enter Try.func54, Try.ntmps54
  go_wp2
  refine wp_loop_rounds 3 ?_
  repeat (rw [rounds_succ]; go_wp2)
  go_ret3
  exact ⟨by rw [or2]; rfl, rfl⟩
set_option maxHeartbeats 400000 in
theorem rnum4 (s : ByteArray) (i : Nat) (w : World) (hs : s.size ≤ 9223372036854775000) (h : i + 4 ≤ s.size) :
    Calls Try.prog 54 #[.string s, .int .i64 i, .int .i64 4] w fun e w' => e = .returned (.tuple #[.int .i64 (be4 s i), .int .i64 (i + 4), .int .i64 0]) ∧ w = w' := by
  have q0 : decide ((i : Int) < 0) = false := by simp
  have hb := get_bt s
  go_enter Try.func54, Try.ntmps54
  go_wp2
  refine wp_loop_rounds 5 ?_
  repeat (rw [rounds_succ]; go_wp2)
  go_ret3
  exact ⟨by rw [or4]; rfl, rfl⟩
/-! ### U16, U32, Put16, Put32, Be -/
set_option maxHeartbeats 400000 in
theorem put16 (x : Int) (w : World) : Calls Try.prog 62 #[.int .i64 x] w fun e w' => e = .returned (.string (p16 x)) ∧ Below w.heap.size w w' := by
  have hcv := run_convert_bytes_arg (P := Try.prog) (w.alloc (.cells #[.int .u8 (x / 256 % 256), .int .u8 (x % 256)] 5)) 56 5 Try.underlying56 Try.underlying5 w.heap.size 0 2 2 [x / 256 % 256, x % 256] rfl
    (fun i hi => by obtain rfl | rfl : i = 0 ∨ i = 1 := by omega
                    · go_simp
                    · go_simp) 9 Try.underlying9
  go_enter Try.func62, Try.ntmps62
  go_wp2
  go_ret
  exact ⟨rfl, below_alloc (Below.refl _ _) _⟩
theorem p16_append (x : Int) : p16 (x / 65536) ++ p16 x = p32 x := by
  unfold p16 p32
  rw [strOfNums_append, show x / 65536 / 256 = x / 16777216 by omega]
  rfl
set_option maxHeartbeats 400000 in
theorem put32 (x : Int) (w : World) : Calls Try.prog 61 #[.int .i64 x] w fun e w' => e = .returned (.string (p32 x)) ∧ Below w.heap.size w w' := by
  have z1 := p16_size (x / 65536)
  have z2 := p16_size x
  go_enter Try.func61, Try.ntmps61
  go_wp2_with fail
  refine (put16 (x / 65536) _).mono ?_
  rintro e w1 ⟨rfl, hb1⟩
  go_wp2_with fail
  refine (put16 x _).mono ?_
  rintro e w2 ⟨rfl, hb2⟩
  go_wp2
  go_ret
  exact ⟨by rw [← p16_append]; rfl, below_next hb1 hb2⟩

/-! ### The place as a whole number -/
theorem rnum2z (s : ByteArray) (i : Int) (w : World) (hs : s.size ≤ 9223372036854775000) (h0 : 0 ≤ i) (h : i + 2 ≤ s.size) :
    Calls Try.prog 54 #[.string s, .int .i64 i, .int .i64 2] w fun e w' => e = .returned (.tuple #[.int .i64 (be2 s i.toNat), .int .i64 (i + 2), .int .i64 0]) ∧ w = w' := by
  obtain ⟨k, rfl⟩ := Int.eq_ofNat_of_zero_le h0
  exact rnum2 s k w hs (by omega)
end Go.Proofs.Ytjklgdpffmaamaa.Oct

namespace Go.Proofs.Ytjklgdpffmaamaa.Sl
open Go.RowKit Go.PlainAid Go.Proofs.Ytjklgdpffmaamaa.Base
set_option linter.unusedVariables false

section
variable {w : World} {base size n : Nat} {e : TypeId} {v : Value} {xs : List Value}
theorem own_base (h : w.ownsRow base e size v n xs) (k : Nat) (hk : v.ownBlock = some k) : base ≤ k := by
  rcases h.2 with ⟨rfl, _⟩ | ⟨g, cap, cur, rfl, hb, _⟩
  · simp [Value.ownBlock] at hk
  · have : g = k := by simpa [Value.ownBlock] using hk
    omega
/-- What was owned is owned still where nothing that was there has turned. -/
theorem own_below {w' : World} (h : w.ownsRow base e size v n xs) (hb : Below w.heap.size w w') : w'.ownsRow base e size v n xs :=
  h.kept (row := none) ⟨hb.os, hb.tape, hb.output, hb.size, fun i hi _ => hb.block i hi⟩ (by cases v.ownBlock <;> simp)
/-- The shape of whatever is owned. -/
theorem own_slice (h : w.ownsRow base e size v n xs) : ∃ A c, v = .slice A n c := by
  rcases h.2 with ⟨rfl, rfl⟩ | ⟨g, cap, cur, rfl, _⟩
  · simp_all
  · exact ⟨_, cap, rfl⟩
end

section
variable {P : Program} {ops : Array Oper} {rest : List Oper} {o : Oper} {a : Act} {Q : Exit → Act → World → Prop}
/-- append(v, x), x an element of the cells cs, which lies in the variadic's own block. -/
theorem append_row {w0 W : World} (base : Nat) (hgd : o.guard = none) (s x : Operand) (t e : TypeId) (z : Value) (size bytes : Nat)
    (ho : o.op = .call { callee := .builtin .append, args := #[s, x], argTypes := #[t, t] })
    (ht : P.underlying t = some (.slice e)) (hinfo : (P.info? e).map (fun i => (i.zero, i.size, i.bytes)) = some (some z, size, bytes)) (hz : z.cells.size = size) (hsz : 0 < size)
    {v : Value} {n : Nat} {xs : List Value} (HO : W.ownsRow base e size v n xs) (cs : Array Value) (hs : a.eval s = v) (hx : a.eval x = .slice (some ⟨W.heap.size, 0, none⟩) 1 1)
    (hc : cs.size = size) (h1 : ∀ u ∈ cs.toList, u.oneCell' = true)
    (HB : Below base w0 W) (hbase : base ≤ W.heap.size) (hn : n + 1 ≤ 140737488355328) (hl : (n + 1) * bytes ≤ 140737488355328)
    (h : ∀ v1 w1, w1.ownsRow base e size v1 (n + 1) (xs ++ cs.toList) → Below base w0 w1 → wpList P ops Q rest (a.put o.dst v1) w1) :
    wpList P ops Q (o :: rest) a (W.alloc (.cells cs e)) := by
  obtain ⟨i0, hi, hz0, hz1, hz2⟩ := info_parts hinfo
  refine wpList_append_own (W.alloc (.cells cs e)) hgd s x t ho base e i0 z size bytes ht hi hz0 hz1 hz2 hz hsz v n xs hs (HO.alloc _) ⟨W.heap.size, 0, none⟩ 1 1 cs.toList hx (by simp [hc])
    (World.news_of_block (cs := cs) (t := e) (fr := (0, 0)) (heap_alloc_new W _)) h1 (by simp only [maxLen]; omega) hl (by simp; omega) ?_
  intro v1 w1 hown hg _
  exact h v1 w1 hown ((HB.alloc hbase _).grown hg (by simp; omega) (own_base HO))
end
end Go.Proofs.Ytjklgdpffmaamaa.Sl

namespace Go.Proofs.Ytjklgdpffmaamaa.Nm
open Go.RowKit Go.PlainAid Go.Proofs.Ytjklgdpffmaamaa.Base Go.Proofs.Ytjklgdpffmaamaa.Oct Go.Proofs.Ytjklgdpffmaamaa.Sl
set_option linter.unusedVariables false

/-- From a place on: do labels follow up to the last byte, which ends the name? -/
def nameAt (s : ByteArray) (i : Nat) : Bool :=
  if i < s.size then
    if bt s i = 0 then decide (i + 1 = s.size) else if 63 < bt s i then false else nameAt s (i + 1 + (bt s i).toNat)
  else false
termination_by s.size - i
/-- Where the labels begin, from a place on, and the last byte's place. -/
def placesAt (s : ByteArray) (i : Nat) : List Nat :=
  if i < s.size then
    i :: (if bt s i = 0 then [] else if 63 < bt s i then [] else placesAt s (i + 1 + (bt s i).toNat))
  else []
termination_by s.size - i
/-- Is it a name? -/
def nameB (s : ByteArray) : Bool := decide (s.size ≤ 255) && nameAt s 0
def places (s : ByteArray) : List Nat := placesAt s 0
theorem nameAt_end {s : ByteArray} {i : Nat} (h : i < s.size) (h0 : bt s i = 0) : nameAt s i = decide (i + 1 = s.size) := by
  rw [nameAt, if_pos h, if_pos h0]
theorem nameAt_bad {s : ByteArray} {i : Nat} (h : i < s.size) (h0 : 63 < bt s i) : nameAt s i = false := by
  rw [nameAt, if_pos h, if_neg (by omega), if_pos h0]
theorem nameAt_next {s : ByteArray} {i : Nat} (h : i < s.size) (h0 : bt s i ≠ 0) (h1 : bt s i ≤ 63) : nameAt s i = nameAt s (i + 1 + (bt s i).toNat) := by
  rw [nameAt, if_pos h, if_neg h0, if_neg (by omega)]
theorem nameAt_out {s : ByteArray} {i : Nat} (h : s.size ≤ i) : nameAt s i = false := by
  rw [nameAt, if_neg (by omega)]
theorem placesAt_end {s : ByteArray} {i : Nat} (h : i < s.size) (h0 : bt s i = 0) : placesAt s i = [i] := by
  rw [placesAt, if_pos h, if_pos h0]
theorem placesAt_next {s : ByteArray} {i : Nat} (h : i < s.size) (h0 : bt s i ≠ 0) (h1 : bt s i ≤ 63) : placesAt s i = i :: placesAt s (i + 1 + (bt s i).toNat) := by
  rw [placesAt, if_pos h, if_neg h0, if_neg (by omega)]
def pcells (xs : List Nat) : List Value := xs.map fun (k : Nat) => .int .i64 (k : Int)

theorem info_int : (Try.prog.info? 3).map (fun i => (i.zero, i.size, i.bytes)) = some (some (.int .i64 0), 1, 8) := by kernel_rfl

/-- Places: whether it is a name; the places, if it is. -/
def PlacesPost (s : ByteArray) (w : World) (e : Ending) (w' : World) : Prop :=
  ∃ v, e = .returned (.tuple #[v, .bool (nameB s)]) ∧ Below w.heap.size w w' ∧ (nameB s = true → w'.ownsRow w.heap.size 3 1 v (places s).length (pcells (places s)))
theorem placesLong (s : ByteArray) (w : World) (h : 255 < s.size) : Calls Try.prog 72 #[.string s] w (PlacesPost s w) := by
  have q : decide ((255 : Int) < s.size) = true := by simp; omega
  have hn : nameB s = false := by unfold nameB; simp; omega
  have HN := Lib.hid hn
  clear hn
  go_enter Try.func72, Try.ntmps72
  go_wp2
  go_step3
  go_wp2
  rw [Exit.noGoto_ret]
  go_ret2
  exact ⟨_, by rw [HN.out]; rfl, Below.refl _ _, fun h => by rw [HN.out] at h; cases h⟩
/-- What holds at each round's head. -/
structure Rnd (s : ByteArray) (w : World) (i : Nat) (v : Value) (wr : World) : Prop where
  nm : nameAt s i = nameAt s 0
  own : ∃ xs : List Nat, xs ++ placesAt s i = placesAt s 0 ∧ xs.length ≤ i ∧ wr.ownsRow w.heap.size 3 1 v xs.length (pcells xs)
  bel : Below w.heap.size w wr
theorem pcells_snoc (xs : List Nat) (i : Nat) : pcells xs ++ [.int .i64 (i : Int)] = pcells (xs ++ [i]) := by simp [pcells]
theorem Rnd.next {s : ByteArray} {w : World} {i : Nat} {xs : List Nat} {v1 : Value} {w1 : World} (hnm : nameAt s i = nameAt s 0) (hlt : i < s.size) (h0 : bt s i ≠ 0) (h1 : bt s i ≤ 63) (hx : xs ++ placesAt s i = placesAt s 0) (hl : xs.length ≤ i)
    (hown : w1.ownsRow w.heap.size 3 1 v1 (xs.length + 1) (pcells xs ++ [.int .i64 (i : Int)])) (hb : Below w.heap.size w w1) : Rnd s w (i + 1 + (bt s i).toNat) v1 w1 where
  nm := by rw [← nameAt_next hlt h0 h1]; exact hnm
  own := ⟨xs ++ [i], by rw [← hx, placesAt_next hlt h0 h1]; simp, by simp; omega, by rw [← pcells_snoc]; simpa using hown⟩
  bel := hb
theorem placesEnd {s : ByteArray} {w : World} {i : Nat} {xs : List Nat} {v1 : Value} {w1 : World} {b : Bool} (hs : s.size ≤ 255) (hnm : nameAt s i = nameAt s 0) (hlt : i < s.size) (h0 : bt s i = 0) (hx : xs ++ placesAt s i = placesAt s 0)
    (hown : w1.ownsRow w.heap.size 3 1 v1 (xs.length + 1) (pcells xs ++ [.int .i64 (i : Int)])) (hb : Below w.heap.size w w1) (hbb : b = decide (i + 1 = s.size)) : PlacesPost s w (.returned (.tuple #[v1, .bool b])) w1 := by
  have e1 : nameB s = b := by unfold nameB; rw [← hnm, nameAt_end hlt h0, hbb]; simp [hs]
  refine ⟨v1, by rw [e1], hb, fun _ => ?_⟩
  unfold places
  rw [← hx, placesAt_end hlt h0, ← pcells_snoc]
  simpa using hown
theorem placesBad {s : ByteArray} {w : World} {i : Nat} {v1 : Value} {w1 : World} (hnm : nameAt s i = nameAt s 0) (hf : nameAt s i = false) (hb : Below w.heap.size w w1) : PlacesPost s w (.returned (.tuple #[v1, .bool false])) w1 := by
  have e1 : nameB s = false := by unfold nameB; rw [← hnm, hf]; simp
  exact ⟨v1, by rw [e1], hb, fun h => by rw [e1] at h; cases h⟩
set_option maxHeartbeats 2000000 in
theorem placesShort (s : ByteArray) (w : World) (h : s.size ≤ 255) : Calls Try.prog 72 #[.string s] w (PlacesPost s w) := by
  have q : decide ((255 : Int) < s.size) = false := by simp; omega
  go_enter Try.func72, Try.ntmps72
  go_wp2
  go_step3
  go_wp2
  go_step3
  go_wp2
  go_loopg [4, 5, 6] (s.size + 65) (fun k v4 v5 v6 wr => ∃ i : Nat, v5 = .int .i64 i ∧ i + k ≤ s.size + 65 ∧ s.size + 65 ≤ i + k ∧ i ≤ s.size + 64 ∧ Rnd s w i v4 wr)
  case atStart => exact ⟨0, rfl, by omega, by omega, by omega, rfl, ⟨[], rfl, Nat.le_refl _, World.ownsRow_nil _ _ _ _⟩, Below.refl _ _⟩
  case round =>
    obtain ⟨i, rfl, hk1, hk2, hk3, hR⟩ := hrel
    have hnm := Lib.hid hR.nm
    have hbel := hR.bel
    by_cases hlt : i < s.size
    · have q0 : decide ((i : Int) < s.size) = true := by simp; omega
      have qs : decide ((0 : Int) < s.size) = true := by simp; omega
      have hb := get_bt s
      have wb : wrap64 (bt s i) = bt s i := w64 (by have := bt_nonneg s i; omega) (by have := bt_le s i; omega)
      obtain ⟨xs, hxs, hxl, hown⟩ := hR.own
      have HX := Lib.hid hxs
      clear hxs
      have hsz := hbel.size
      by_cases hz : bt s i = 0
      · have q1 : (bt s i == 0) = true := by simp [hz]
        have HZ := Lib.hid hz
        clear hz
        go_wp2_with (at_builtin; refine append_row (w0 := w) w.heap.size rfl _ _ 94 3 (.int .i64 0) 1 8 rfl Try.underlying94 info_int rfl (by decide) hown #[.int .i64 i] rfl rfl rfl ?h1 hbel hsz ?hn ?hl ?_)
        case h1 => rfl
        case hn => omega
        case hl => omega
        intro v1 w1 hown1 hbel1
        go_wp2
        rw [Exit.noGoto_ret]
        go_ret2
        exact placesEnd h hnm.out hlt HZ.out HX.out hown1 hbel1 (by rw [Bool.eq_iff_iff]; simp; omega)
      · have q1 : (bt s i == 0) = false := by simp [hz]
        have HZ := Lib.hid hz
        clear hz
        by_cases h63 : bt s i ≤ 63
        · have q2 : decide (63 < bt s i) = false := by simp; omega
          have H63 := Lib.hid h63
          clear h63
          have ws : wrap64 ((i : Int) + wrap64 (1 + bt s i)) = ((i + 1 + (bt s i).toNat : Nat) : Int) := by
            have := bt_nonneg s i; have := bt_le s i
            rw [w64 (x := 1 + bt s i) (by omega) (by omega), w64 (by omega) (by omega)]; omega
          go_wp2_with (at_builtin; refine append_row (w0 := w) w.heap.size rfl _ _ 94 3 (.int .i64 0) 1 8 rfl Try.underlying94 info_int rfl (by decide) hown #[.int .i64 i] rfl rfl rfl ?h1 hbel hsz ?hn ?hl ?_)
          case h1 => rfl
          case hn => omega
          case hl => omega
          intro v1 w1 hown1 hbel1
          go_wp2
          go_roundg (gk - 1 - (bt s i).toNat)
          case measure => omega
          case rel =>
            have := H63.out; have := bt_nonneg s i
            exact ⟨i + 1 + (bt s i).toNat, congrArg _ ws, by omega, by omega, by omega, Rnd.next hnm.out hlt HZ.out H63.out HX.out hxl hown1 hbel1⟩
        · have q2 : decide (63 < bt s i) = true := by simp; omega
          have H63 := Lib.hid h63
          clear h63
          go_wp2_with (at_builtin; refine append_row (w0 := w) w.heap.size rfl _ _ 94 3 (.int .i64 0) 1 8 rfl Try.underlying94 info_int rfl (by decide) hown #[.int .i64 i] rfl rfl rfl ?h1 hbel hsz ?hn ?hl ?_)
          case h1 => rfl
          case hn => omega
          case hl => omega
          intro v1 w1 hown1 hbel1
          go_wp2
          rw [Exit.noGoto_ret]
          go_ret2
          exact placesBad hnm.out (nameAt_bad hlt (by have := H63.out; omega)) hbel1
    · have q0 : decide ((i : Int) < s.size) = false := by simp; omega
      by_cases hs0 : s.size = 0
      · have qs : decide (0 < s.size) = false := decide_eq_false (by omega)
        have HS := Lib.hid hs0
        clear hs0
        go_wp2
        rw [Exit.noGoto_ret]
        go_ret2
        exact placesBad hnm.out (nameAt_out (by omega)) hbel
      · have qs : decide (0 < s.size) = true := decide_eq_true (by omega)
        have qe : ((i : Int) == (s.size : Int) - 1) = false := by simp; omega
        have HS := Lib.hid hs0
        clear hs0
        go_wp2
        rw [Exit.noGoto_ret]
        go_ret2
        exact placesBad hnm.out (nameAt_out (by omega)) hbel
end Go.Proofs.Ytjklgdpffmaamaa.Nm

namespace Go.Proofs.Ytjklgdpffmaamaa.Wr
open Go.RowKit Go.PlainAid Go.Maps Go.Proofs.Ytjklgdpffmaamaa.Base Go.Proofs.Ytjklgdpffmaamaa.Oct Go.Proofs.YtjklgdpffmaamaaW.PrintWords
set_option linter.unusedVariables false

theorem keyed : Keyed Try.prog 9 := string_keyed Try.underlying9
theorem zero_int (w : World) : (zeroValue 3).run Try.prog w = .ok (.int .i64 0) w := by kernel_rfl
theorem info_byte : (Try.prog.info? 5).map (fun i => (i.zero, i.size, i.bytes)) = some (some (.int .u8 0), 1, 1) := by kernel_rfl
abbrev lit (s : ByteArray) : Lit := .string s.data.toList
theorem key_of (s : ByteArray) (h : s.size ≤ 140737488351232) : keyOf Try.prog 9 (.string s) = some (lit s) := by
  have : s.data.toList.length ≤ maxLen := by simp only [maxLen]; have : s.data.toList.length = s.size := by simp
                                             omega
  simp [keyOf, mapKey, Try.underlying9]
  first | omega | (simp only [maxLen] at *; omega) | simpa using this
/-- The map says just what m says, of strings of any use. -/
structure Tells (D : DataW Unit) (m : ByteArray → Option Int) : Prop where
  isMap : IsMap D
  has : ∀ s, Maps.has D (lit s) = (m s).isSome
  at_ : ∀ s, D.atKey (lit s) (.lit (.int .i64 0)) = .lit (.int .i64 ((m s).getD 0))
theorem lit_inj {a b : ByteArray} (h : lit a = lit b) : a = b := by
  have h1 : a.data.toList = b.data.toList := Lit.string.inj h
  have h2 : a.data = b.data := by simpa using h1
  cases a; cases b; simp_all
theorem Tells.put {D : DataW Unit} {m : ByteArray → Option Int} (h : Tells D m) (x : ByteArray) (a : Int) : Tells (D.put (lit x) (.lit (.int .i64 a))) (fun y => if y = x then some a else m y) where
  isMap := h.isMap.put _ _
  has y := by
    by_cases e : y = x
    · subst e; rw [if_pos rfl, has_put_same h.isMap (show WideAt.IsKeyLit (lit y) from trivial)]; rfl
    · rw [if_neg e, has_put_other (fun e2 => e (lit_inj e2)), h.has]
  at_ y := by
    by_cases e : y = x
    · subst e; rw [if_pos rfl, atKey_put_same h.isMap (show WideAt.IsKeyLit (lit y) from trivial)]; rfl
    · rw [if_neg e, atKey_put_other (fun e2 => e (lit_inj e2)), h.at_]
/-- What a writer holds: its bytes, and where rests of names lie. -/
structure Wr (base : Nat) (w : World) (g gm : Nat) (v : Value) (xs : List Int) (m : ByteArray → Option Int) : Prop where
  gb : base ≤ g
  mb : base ≤ gm
  blk : w.heap[g]? = some (.cells #[v, .map (some gm)] 154 (0, 0))
  own : w.ownsRow base 5 1 v xs.length (nums .u8 xs)
  map : ∃ n D, n ≤ 256 * xs.length ∧ w.ownsMap Try.prog 9 (plainElem Try.prog 3) gm n D ∧ Tells D m
  len : xs.length ≤ 4096
abbrev ptr (g : Nat) : Value := .pointer (some ⟨g, 0, none⟩)
/-- What a call on the writer leaves as it was: all blocks but the writer's own and rows of bytes. -/
structure Kp (w w' : World) (g gm : Nat) : Prop where
  size : w.heap.size ≤ w'.heap.size
  block : ∀ k, k < w.heap.size → k ≠ g → k ≠ gm → (∀ cs, w.heap[k]? ≠ some (.cells cs 5 (0, 0))) → w'.heap[k]? = w.heap[k]?
theorem Kp.refl (w : World) (g gm : Nat) : Kp w w g gm := ⟨Nat.le_refl _, fun _ _ _ _ _ => rfl⟩
theorem Kp.trans {w w1 w2 : World} {g gm : Nat} (h : Kp w w1 g gm) (k : Kp w1 w2 g gm) : Kp w w2 g gm :=
  ⟨Nat.le_trans h.size k.size, fun i hi a b c => by
    have e := h.block i hi a b c
    exact (k.block i (Nat.lt_of_lt_of_le hi h.size) a b (fun cs => by rw [e]; exact c cs)).trans e⟩

theorem newc (w : World) : Calls Try.prog 58 #[] w fun e w' => ∃ g gm, e = .returned (ptr g) ∧ Below w.heap.size w w' ∧ Wr w.heap.size w' g gm (.slice none 0 0) [] (fun _ => none) := by
  have hmm := @run_makeMap Try.prog
  go_enter Try.func58, Try.ntmps58
  go_wp2
  go_ret
  refine ⟨_, w.heap.size, rfl, ((Below.refl _ _).alloc (Nat.le_refl _) _).alloc (by simp) _, ⟨?_, Nat.le_refl _, by simpa using blk_new (w.alloc (.map #[] 0)) _, own_nil _ _ _ _, ⟨0, .map [], by simp, (World.ownsMap_made w _ _ _).alloc _, ⟨?_, fun s => ?_, fun s => ?_⟩⟩, by simp⟩⟩
  all_goals first | (simp; done) | rfl | trivial | (simp [IsMap]; done) | exact ⟨_, rfl⟩ | skip

theorem allc {base g gm : Nat} {v : Value} {xs : List Int} {m : ByteArray → Option Int} {w : World} (H : Wr base w g gm v xs m) :
    Calls Try.prog 63 #[ptr g] w fun e w' => e = .returned (.string (strOfNums xs)) ∧ w' = w := by
  have c0 : w.cell? ⟨g, 0, none⟩ = some v := (blk_cell H.blk 0).trans rfl
  have hc := own_string Try.underlying56 Try.underlying5 Try.underlying9 H.own
  go_enter Try.func63, Try.ntmps63
  go_wp2
  go_ret
  exact ⟨rfl, rfl⟩

section
variable {P : Program} {ops : Array Oper} {rest : List Oper} {o : Oper} {a : Act} {Q : Exit → Act → World → Prop}
theorem app_str {W : World} (base : Nat) (hgd : o.guard = none) (s x : Operand) (t u e : TypeId)
    (ho : o.op = .call { callee := .builtin .append, args := #[s, x], argTypes := #[t, u] })
    (ht : P.underlying t = some (.slice e)) (hu : P.underlying u = some .string) (hinfo : (P.info? e).map (fun i => (i.zero, i.size, i.bytes)) = some (some (.int .u8 0), 1, 1))
    (v : Value) (xs : List Int) (y : ByteArray) (hs : a.eval s = v) (hx : a.eval x = .string y)
    (HO : W.ownsRow base e 1 v xs.length (nums .u8 xs)) (hbase : base ≤ W.heap.size) (hl : xs.length + y.size ≤ 140737488355328)
    (h : ∀ v1 w1, w1.ownsRow base e 1 v1 (xs ++ bytesOf y).length (nums .u8 (xs ++ bytesOf y)) → W.grownBy w1 v.ownBlock → wpList P ops Q rest (a.put o.dst v1) w1) :
    wpList P ops Q (o :: rest) a W := by
  obtain ⟨i0, hi, hzz⟩ := Option.map_eq_some_iff.1 hinfo
  simp only [Prod.mk.injEq] at hzz
  obtain ⟨hz0, hz1, hz2⟩ := hzz
  refine Lib.wpList_append_own_string W hgd s x t u ho base e i0 ht hu hi hz0 hz1 hz2 v xs.length (nums .u8 xs) hs HO y hx (by simp only [maxLen]; omega) hl hbase ?_
  intro v1 w1 hown hg _
  have hl2 : (xs ++ bytesOf y).length = xs.length + y.size := by rw [List.length_append, bytesOf_length]
  have hc : nums .u8 (xs ++ bytesOf y) = nums .u8 xs ++ Lib.strCells y := by
    rw [nums_append]
    congr 1
    simp [nums, bytesOf, Lib.strCells]
  exact h v1 w1 (by rw [hl2, hc]; exact hown) hg
end

section
variable {base g gm : Nat} {v : Value} {xs : List Int} {m : ByteArray → Option Int} {w : World}
theorem Wr.base_le (H : Wr base w g gm v xs m) : base ≤ w.heap.size := Nat.le_trans H.gb (Nat.le_of_lt (blk_lt H.blk))
theorem Wr.ne (H : Wr base w g gm v xs m) : gm ≠ g := by
  obtain ⟨n, D, _, h, _⟩ := H.map
  obtain ⟨es, c, hb, _⟩ := h
  rintro rfl
  rw [H.blk] at hb
  cases hb
theorem Wr.row_g (H : Wr base w g gm v xs m) : some g ≠ v.ownBlock := own_ne H.own H.blk (by decide)
theorem Wr.row_m (H : Wr base w g gm v xs m) : some gm ≠ v.ownBlock := by
  intro e
  obtain ⟨cells, h⟩ := own_typed H.own gm e.symm
  obtain ⟨n, D, _, h', _⟩ := H.map
  obtain ⟨es, c, hb, _⟩ := h'
  rw [h] at hb
  cases hb
theorem Wr.stored2 (H : Wr base w g gm v xs m) {wr w1 : World} {v1 : Value} {ys : List Int} {n' : Nat} {D' : DataW Unit} {m' : ByteArray → Option Int} (hgr : w.grownBy wr (some gm)) (hm : wr.ownsMap Try.prog 9 (plainElem Try.prog 3) gm n' D') (ht : Tells D' m')
    (hg1 : wr.grownBy w1 v.ownBlock) (ho1 : w1.ownsRow base 5 1 v1 ys.length (nums .u8 ys)) (hl : ys.length ≤ 4096) (hn : n' ≤ 256 * ys.length) :
    Wr base (w1.setCell ⟨g, 0, none⟩ v1) g gm v1 ys m' ∧ Below base w (w1.setCell ⟨g, 0, none⟩ v1) ∧ Kp w (w1.setCell ⟨g, 0, none⟩ v1) g gm := by
  have b0 := blk_grown H.blk hgr (by simpa using H.ne.symm)
  have b1 := blk_grown b0 hg1 H.row_g
  refine ⟨⟨H.gb, H.mb, blk_put b1 0 v1 rfl, own_setCell ho1 (own_ne ho1 b1 (by decide)) _, ⟨n', D', hn, (hm.kept hg1 H.row_m).setCell H.ne _, ht⟩, hl⟩, (((Below.refl base w).grown hgr H.base_le (fun k e => by have := H.mb; injection e with e; omega)).grown hg1 (Nat.le_trans H.base_le hgr.size) (own_base H.own)).setCell H.gb _, ⟨by have := hg1.size; have := hgr.size; simp [World.setCell]; omega, fun k hk h1 h2 h3 => ?_⟩⟩
  refine (Below.heap_setCell w1 _ _ k h1).trans ((hg1.block k (Nat.lt_of_lt_of_le hk hgr.size) ?_).trans (hgr.block k hk (by simpa using h2)))
  intro e
  obtain ⟨cells, h⟩ := own_typed H.own k e.symm
  exact h3 cells h
theorem Wr.stored (H : Wr base w g gm v xs m) {w1 : World} {v1 : Value} {ys : List Int} (hg1 : w.grownBy w1 v.ownBlock) (ho1 : w1.ownsRow base 5 1 v1 ys.length (nums .u8 ys)) (hl : ys.length ≤ 4096) (hle : xs.length ≤ ys.length) :
    Wr base (w1.setCell ⟨g, 0, none⟩ v1) g gm v1 ys m ∧ Below base w (w1.setCell ⟨g, 0, none⟩ v1) ∧ Kp w (w1.setCell ⟨g, 0, none⟩ v1) g gm := by
  obtain ⟨n, D, hn, hm, ht⟩ := H.map
  exact H.stored2 (World.grownBy.refl _ _) hm ht hg1 ho1 hl (by omega)
theorem rawOk (H : Wr base w g gm v xs m) (s : ByteArray) (hs : s.size ≤ 140737488351232) (hl : xs.length + s.size ≤ 4096) :
    Calls Try.prog 90 #[ptr g, .string s] w fun e w' => e = .returned (.int .i64 0) ∧ ∃ v', Wr base w' g gm v' (xs ++ bytesOf s) m ∧ Below base w w' ∧ Kp w w' g gm := by
  have c0 : w.cell? ⟨g, 0, none⟩ = some v := (blk_cell H.blk 0).trans rfl
  have f0 := blk_frozen H.blk 0
  have hx := H.len
  have hb := H.base_le
  have ho := H.own
  have hrg := H.row_g
  obtain ⟨A, c, rfl⟩ := own_slice H.own
  have q : decide (4096 - (xs.length : Int) < (s.size : Int)) = false := by simp; omega
  go_enter Try.func90, Try.ntmps90
  go_wp2_with (at_builtin; refine app_str base rfl (.tmp 22) (.tmp 23) 56 9 5 rfl Try.underlying56 Try.underlying9 info_byte _ xs s rfl rfl ho hb (by omega) ?_; intro v1 w1 ho1 hg1; have c1 := hg1.cell c0 hrg; have f1 : w1.frozen? ⟨g, 0, none⟩ = false := (World.frozen?_of_block (hg1.block g (blk_lt H.blk) hrg)).trans f0; rw [List.length_append] at ho1; obtain ⟨A1, cc1, rfl⟩ := own_slice ho1)
  go_ret
  exact ⟨rfl, _, H.stored hg1 (by rw [List.length_append]; exact ho1) (by simp [bytesOf_length]; omega) (by simp)⟩
end
end Go.Proofs.Ytjklgdpffmaamaa.Wr

namespace Go.Proofs.Ytjklgdpffmaamaa.Wr
open Go.RowKit Go.PlainAid Go.Maps Go.Proofs.Ytjklgdpffmaamaa.Base Go.Proofs.Ytjklgdpffmaamaa.Oct Go.Proofs.Ytjklgdpffmaamaa.Nm Go.Proofs.YtjklgdpffmaamaaW.PrintWords
set_option linter.unusedVariables false

theorem placesc (s : ByteArray) (w : World) : Calls Try.prog 72 #[.string s] w (PlacesPost s w) :=
  if h : 255 < s.size then placesLong s w h else placesShort s w (by omega)
section
variable {base g gm : Nat} {v : Value} {xs : List Int} {m : ByteArray → Option Int} {w w' : World}
theorem Wr.below (H : Wr base w g gm v xs m) (hb : Below w.heap.size w w') : Wr base w' g gm v xs m := by
  obtain ⟨n, D, hn, hm, ht⟩ := H.map
  exact ⟨H.gb, H.mb, blk_below H.blk hb, pw_own_below H.own hb, ⟨n, D, hn, hm.kept (row := none) ⟨hb.os, hb.tape, hb.output, hb.size, fun k hk _ => hb.block k hk⟩ (by simp), ht⟩, H.len⟩
theorem Kp.below (hb : Below w.heap.size w w') : Kp w w' g gm := ⟨hb.size, fun k hk _ _ _ => hb.block k hk⟩
theorem nameNo (H : Wr base w g gm v xs m) (s : ByteArray) (hs : nameB s = false) :
    Calls Try.prog 91 #[ptr g, .string s] w fun e w' => e = .returned (.int .i64 500) ∧ Wr base w' g gm v xs m ∧ Below base w w' ∧ Kp w w' g gm := by
  go_enter Try.func91, Try.ntmps91
  go_wp2_with fail
  refine (placesc s _).mono ?_
  rintro e w1 ⟨v1, rfl, hb1, ho1⟩
  rw [hs]
  go_wp2
  go_ret
  exact ⟨rfl, H.below hb1, hb1.mono H.base_le, Kp.below hb1⟩
end
theorem places_pos {s : ByteArray} (h : nameB s = true) : s.size ≤ 255 ∧ 0 < (places s).length := by
  unfold nameB at h
  simp at h
  refine ⟨h.1, ?_⟩
  have h2 := h.2
  unfold places
  rw [nameAt] at h2
  rw [placesAt]
  by_cases h0 : 0 < s.size
  · simp [h0]
  · simp [h0] at h2
/-- The first rest of the name that the writer knows: which of the places, the place, where it lies. -/
def findP (m : ByteArray → Option Int) (s : ByteArray) : List Nat → Nat → Option (Nat × Nat × Int)
  | [], _ => none
  | p :: ps, i => match m (s.extract p s.size) with
    | some t => some (i, p, t)
    | none => findP m s ps (i + 1)
/-- The places of a name's labels. -/
def heads (s : ByteArray) : List Nat := (places s).dropLast
/-- What is put behind. -/
def outN (m : ByteArray → Option Int) (s : ByteArray) : ByteArray :=
  match findP m s (heads s) 0 with
  | some (i, p, t) => s.extract 0 p ++ p16 (Go.bits .or .i64 49152 t)
  | none => s
/-- So many labels are written out. -/
def wroteN (m : ByteArray → Option Int) (s : ByteArray) : Nat :=
  match findP m s (heads s) 0 with
  | some (i, p, t) => i
  | none => (heads s).length
section
variable {base g gm : Nat} {v : Value} {xs : List Int} {m : ByteArray → Option Int} {w w' : World}
theorem placesAt_len (s : ByteArray) : ∀ n i, s.size - i ≤ n → (placesAt s i).length ≤ s.size - i := by
  intro n
  induction n with
  | zero => intro i h; rw [placesAt, if_neg (by omega)]; simp
  | succ n ih =>
    intro i h
    rw [placesAt]
    by_cases hi : i < s.size
    · rw [if_pos hi]
      by_cases h0 : PlainAid.bt s i = 0
      · rw [if_pos h0]; simp; omega
      · rw [if_neg h0]
        by_cases h1 : 63 < PlainAid.bt s i
        · rw [if_pos h1]; simp; omega
        · rw [if_neg h1]
          have := ih (i + 1 + (PlainAid.bt s i).toNat) (by omega)
          simp; omega
    · rw [if_neg hi]; simp
theorem placesAt_mem (s : ByteArray) : ∀ n i, s.size - i ≤ n → ∀ p ∈ placesAt s i, p < s.size := by
  intro n
  induction n with
  | zero => intro i h p hp; rw [placesAt, if_neg (by omega)] at hp; cases hp
  | succ n ih =>
    intro i h p hp
    rw [placesAt] at hp
    by_cases hi : i < s.size
    · rw [if_pos hi] at hp
      rcases List.mem_cons.1 hp with rfl | hp
      · exact hi
      · by_cases h0 : PlainAid.bt s i = 0
        · rw [if_pos h0] at hp; cases hp
        · rw [if_neg h0] at hp
          by_cases h1 : 63 < PlainAid.bt s i
          · rw [if_pos h1] at hp; cases hp
          · rw [if_neg h1] at hp
            exact ih (i + 1 + (PlainAid.bt s i).toNat) (by omega) p hp
    · rw [if_neg hi] at hp; cases hp
theorem places_get (s : ByteArray) (k : Nat) (h : k < (places s).length) : (places s).getD k 0 < s.size := by
  rw [List.getD_eq_getElem?_getD, List.getElem?_eq_getElem h]
  exact placesAt_mem s _ 0 (Nat.le_refl _) _ (List.getElem_mem h)
/-- What is kept of so many labels' rests. -/
def putK (m : ByteArray → Option Int) (s : ByteArray) (at0 : Nat) (ps : List Nat) : ByteArray → Option Int :=
  ps.foldl (fun m p => fun x => if x = s.extract p s.size then some ((at0 : Int) + p) else m x) m
def putN (m : ByteArray → Option Int) (s : ByteArray) (at0 : Nat) : ByteArray → Option Int := putK m s at0 ((heads s).take (wroteN m s))
theorem heads_length {s : ByteArray} {K : Nat} (h : (places s).length = K + 1) : (heads s).length = K := by
  unfold heads
  rw [List.length_dropLast, h]; rfl
theorem drop_last {l : List Nat} {i : Nat} (h : i + 1 < l.length) : l.dropLast.drop i = l.getD i 0 :: l.dropLast.drop (i + 1) := by
  have hl : i < l.dropLast.length := by rw [List.length_dropLast]; omega
  rw [List.drop_eq_getElem_cons hl, List.getElem_dropLast, List.getD_eq_getElem?_getD, List.getElem?_eq_getElem (show i < l.length by omega)]
  rfl
theorem heads_get {s : ByteArray} {i : Nat} (h : i + 1 < (places s).length) : (heads s).drop i = (places s).getD i 0 :: (heads s).drop (i + 1) := drop_last h
theorem take_get {s : ByteArray} {i : Nat} (h : i + 1 < (places s).length) : (heads s).take (i + 1) = (heads s).take i ++ [(places s).getD i 0] := by
  have hl : i < (heads s).length := by unfold heads; rw [List.length_dropLast]; omega
  have e : (heads s)[i] = (places s).getD i 0 := by
    have := heads_get h
    rw [List.drop_eq_getElem_cons hl] at this
    exact (List.cons.inj this).1
  rw [← e, List.take_succ_eq_append_getElem hl]
theorem find_le (m : ByteArray → Option Int) (s : ByteArray) : ∀ (ps : List Nat) (i j p : Nat) (t : Int), findP m s ps i = some (j, p, t) → j ≤ i + ps.length ∧ p ∈ ps := by
  intro ps
  induction ps with
  | nil => intro i j p t h; cases h
  | cons a ps ih =>
    intro i j p t h
    rw [findP] at h
    cases hm : m (s.extract a s.size) with
    | none =>
      rw [hm] at h
      have := ih (i + 1) j p t h
      exact ⟨by simp; omega, List.mem_cons_of_mem _ this.2⟩
    | some u =>
      rw [hm] at h
      injection h with h
      injection h with h1 h
      injection h with h2 h3
      subst h1; subst h2
      exact ⟨by simp, by simp⟩
theorem wroteN_le (m : ByteArray → Option Int) (s : ByteArray) {K : Nat} (hK : (places s).length = K + 1) : wroteN m s ≤ K := by
  have hl := heads_length hK
  unfold wroteN
  cases h : findP m s (heads s) 0 with
  | none => simp; omega
  | some r => obtain ⟨j, p, t⟩ := r; have := (find_le m s _ _ _ _ _ h).1; simp; omega
theorem out_pos (m : ByteArray → Option Int) (s : ByteArray) (h : nameB s = true) : 1 ≤ (outN m s).size := by
  have := places_pos h
  have := placesAt_len s s.size 0 (by omega)
  unfold places at *
  unfold outN
  cases h : findP m s (heads s) 0 with
  | none => simp; omega
  | some r => obtain ⟨j, p, t⟩ := r; simp [p16_size]; try omega
theorem look {n : Nat} {D : DataW Unit} {x : ByteArray} (hm : w.ownsMap Try.prog 9 (plainElem Try.prog 3) gm n D) (ht : Tells D m) (hkey : keyOf Try.prog 9 (.string x) = some (lit x)) :
    ∃ c : Int, (Instr.lookup 152 (.map (some gm)) (.string x) true).run Try.prog w = .ok (.tuple #[.int .i64 c, .bool (m x).isSome]) w ∧ c = (m x).getD 0 ∧ True := by
  obtain ⟨v, ps, h1, h2⟩ := hm.look_ok keyed Try.underlying152 (zero_int w) (zd := .lit (.int .i64 0)) (zp := []) (plainElem_int Try.underlying3 (by decide)) hkey
  obtain ⟨c, rfl, hc, hw⟩ := plainElem_int_inv Try.underlying3 h2
  have e := congrArg Prod.fst hc
  simp only [ht.at_] at e
  exact ⟨c, by rw [h1, ht.has], (Lit.int.inj (DataW.lit.inj e)).2.symm, trivial⟩
set_option maxHeartbeats 4000000 in
set_option maxRecDepth 100000 in
theorem nameYes (H : Wr base w g gm v xs m) (s : ByteArray) (hs : nameB s = true) :
    Calls Try.prog 91 #[ptr g, .string s] w fun e w' =>
      if 4096 < xs.length + (outN m s).size then e = .returned (.int .i64 501) ∧ Wr base w' g gm v xs m ∧ Below base w w' ∧ Kp w w' g gm
      else e = .returned (.int .i64 0) ∧ ∃ v', Wr base w' g gm v' (xs ++ bytesOf (outN m s)) (putN m s xs.length) ∧ Below base w w' ∧ Kp w w' g gm := by
  obtain ⟨h255, hpos⟩ := places_pos hs
  have hlen : (places s).length ≤ s.size := by have := placesAt_len s s.size 0 (by omega); simpa [places] using this
  obtain ⟨K, hK⟩ : ∃ K, (places s).length = K + 1 := ⟨(places s).length - 1, by omega⟩
  have hK1 : K ≤ 254 := by omega
  go_enter Try.func91, Try.ntmps91
  go_wp2_with fail
  refine (placesc s _).mono ?_
  rintro e w1 ⟨v1, rfl, hb1, ho1⟩
  replace ho1 := ho1 hs
  rw [hs]
  have H1 := H.below hb1
  have hgw : g ≠ w.heap.size := Nat.ne_of_lt (blk_lt H.blk)
  rw [hK] at ho1
  obtain ⟨gp, cap, hgp, hcl, hcap, rfl, hc⟩ : ∃ gp cap, w.heap.size ≤ gp ∧ K + 1 ≤ cap ∧ cap ≤ maxLen ∧ v1 = .slice (some ⟨gp, 0, none⟩) (K + 1) cap ∧ ∀ k, k < K + 1 → w1.cell? ⟨gp, k, none⟩ = some (.int .i64 ((places s).getD k 0 : Nat)) := by
    rcases ho1.2 with ⟨_, h0⟩ | ⟨gp, cap, cur, rfl, hgp, hblk, hcl, hcap, hcz, hct⟩
    · omega
    · refine ⟨gp, cap, hgp, hcl, hcap, rfl, fun k hk => ?_⟩
      rw [blk_cell hblk k]
      have e : (cur.toList.take ((K + 1) * 1))[k]? = (pcells (places s))[k]? := by rw [hct]
      rw [List.getElem?_take_of_lt (by omega), Array.getElem?_toList] at e
      rw [e, pcells, List.getElem?_map, List.getElem?_eq_getElem (show k < (places s).length by omega), List.getD_eq_getElem?_getD, List.getElem?_eq_getElem (show k < (places s).length by omega)]
      rfl
  have z1 : (K : Int) ≤ (cap : Int) := by omega
  go_upto_block 0 with (fail)
  go_cut [7, 8] (fun v7 v8 wc => v7 = .string (outN m s) ∧ v8 = .int .i64 (wroteN m s : Nat) ∧ Below w1.heap.size w1 wc)
  case first =>
    go_wp2
    go_loopg [7, 8, 9, 10, 11, 12, 35] (K + 1) (fun k v7 v8 v9 v10 v11 v12 v35 wr => ∃ i : Nat, v7 = .string s ∧ v8 = .int .i64 (K : Nat) ∧ v35 = .int .i64 i ∧ i + k = K + 1 ∧ i ≤ K ∧ findP m s (heads s) 0 = findP m s ((heads s).drop i) i ∧ Below w1.heap.size w1 wr)
    case atStart => exact ⟨0, rfl, rfl, rfl, by omega, by omega, by simp, Below.refl _ _⟩
    case round =>
      obtain ⟨i, rfl, rfl, rfl, hk1, hk2, hf, hb2⟩ := hrel
      have HF := Lib.hid hf
      clear hf
      by_cases hi : i < K
      · have q0 : decide ((i : Int) < (K : Int)) = true := by simp; omega
        have hp := places_get s i (by omega)
        have hci := (Below.cell hb2 (p := ⟨gp, i, none⟩) (World.block_lt_of_cell? w1 _ (hc i (by omega)))).trans (hc i (by omega))
        have hat := heads_get (s := s) (i := i) (by omega)
        generalize hP : (places s).getD i 0 = p at *
        have H2 := H1.below hb2
        obtain ⟨n, D, hn, hm, ht⟩ := H2.map
        have c1 : wr.cell? ⟨g, 1, none⟩ = some (.map (some gm)) := (blk_cell H2.blk 1).trans rfl
        have hkey := key_of (s.extract p s.size) (by rw [ByteArray.size_extract]; omega)
        obtain ⟨c, hrun, hcat, hcw⟩ := look hm.drew ht hkey
        have p1 : (p : Int) ≤ (s.size : Int) := by omega
        go_upto_region 11 with (fail)
        cases hms : m (s.extract p s.size) with
        | none =>
          rw [hms] at hrun
          change (Instr.lookup 152 (.map (some gm)) (.string (s.extract p s.size)) true).run Try.prog wr.drew = .ok (.tuple #[.int .i64 c, .bool false]) wr.drew at hrun
          go_region
          go_wp2
          go_roundg (gk - 1)
          case measure => omega
          case rel => exact ⟨i + 1, rfl, rfl, by first | rfl | (simp; done), by omega, by omega, by rw [HF.out, hat, findP, hms], hb2.drew⟩
        | some t =>
          rw [hms] at hrun hcat
          obtain rfl : c = t := hcat
          change (Instr.lookup 152 (.map (some gm)) (.string (s.extract p s.size)) true).run Try.prog wr.drew = .ok (.tuple #[.int .i64 c, .bool true]) wr.drew at hrun
          go_region
          have z2 := p16_size (Go.bits .or .i64 49152 c)
          have z3 : (s.extract 0 p).size = p := by rw [ByteArray.size_extract]; omega
          have hcs : ¬ 9223372036854775807 < (s.extract 0 p).size + (p16 (Go.bits .or .i64 49152 c)).size := by omega
          go_upto_region 13 with (fail)
          refine wp_region_quiet_below (by kernel_rfl) (by kernel_rfl) ?_
          repeat (go_big_quiet_step (exact Calls.regrown_of (put16 _ _)))
          refine wpQuiet_nil ?_
          intro _ hw'
          obtain ⟨⟨dq, osq⟩, hw''⟩ := hw'
          subst hw''
          have hb3 := below_regrown wr.drew dq osq
          generalize Go.Sort.grow (redrawn wr.drew dq) osq = w2 at hb3 ⊢
          have e : findP m s (heads s) 0 = some (i, p, c) := by rw [HF.out, hat, findP, hms]
          go_wp2
          go_meet
          case rel => exact ⟨by rw [outN, e], by rw [wroteN, e], hb2.drew.trans (hb3.mono hb2.size)⟩
      · have q0 : decide ((i : Int) < (K : Int)) = false := by simp; omega
        go_wp2
        go_meet
        case rel =>
          have e : findP m s (heads s) 0 = none := by
            rw [HF.out, List.drop_eq_nil_of_le (by rw [heads_length hK]; omega)]; rfl
          exact ⟨by rw [outN, e], by rw [wroteN, e, heads_length hK], hb2⟩
  case rest =>
  obtain ⟨rfl, rfl, hb2⟩ := hcut
  have H2 := H1.below hb2
  have c0 : wc.cell? ⟨g, 0, none⟩ = some v := (blk_cell H2.blk 0).trans rfl
  have hx := H2.len
  obtain ⟨A, cA, rfl⟩ := own_slice H2.own
  by_cases hfit : 4096 < xs.length + (outN m s).size
  · have q : decide (4096 - (xs.length : Int) < ((outN m s).size : Int)) = true := by simp; omega
    have HFIT := Lib.hid hfit
    clear hfit
    go_wp2
    go_ret
    try rw [if_pos HFIT.out]
    exact ⟨rfl, H2, (hb1.mono H.base_le).trans (hb2.mono H1.base_le), (Kp.below hb1).trans (Kp.below hb2)⟩
  · have q : decide (4096 - (xs.length : Int) < ((outN m s).size : Int)) = false := by simp; omega
    have HFIT := Lib.hid hfit
    clear hfit
    have hnw := wroteN_le m s hK
    have z5 : ((wroteN m s : Nat) : Int) ≤ (cap : Int) := by omega
    have hob := out_pos m s hs
    generalize hW : wroteN m s = nw at *
    have hgm := H.ne
    obtain ⟨n, D, hn, hm, ht⟩ := H2.map
    have hgmw : gm < w.heap.size := by obtain ⟨n, D, _, h, _⟩ := H.map; exact h.lt
    go_wp2
    go_loopg [14, 15, 74] (nw + 1) (fun k v14 v15 v74 wr => ∃ (i : Nat) (D' : DataW Unit), v74 = .int .i64 i ∧ i + k = nw + 1 ∧ i ≤ nw ∧ wr.ownsMap Try.prog 9 (plainElem Try.prog 3) gm (n + i) D' ∧ Tells D' (putK m s xs.length ((heads s).take i)) ∧ wc.grownBy wr (some gm))
    case atStart => exact ⟨0, D, rfl, by omega, by omega, hm, by simpa [putK] using ht, World.grownBy.refl _ _⟩
    case round =>
      obtain ⟨i, D', rfl, hk1, hk2, hm2, ht2, hg2⟩ := hrel
      have b2 := blk_grown H2.blk hg2 (by simpa using hgm.symm)
      have c0w : wr.cell? ⟨g, 0, none⟩ = some (.slice A xs.length cA) := (blk_cell b2 0).trans rfl
      have HT := Lib.hid ht2
      clear ht2
      by_cases hi : i < nw
      · have q0 : decide ((i : Int) < (nw : Int)) = true := by simp; omega
        have hp := places_get s i (by omega)
        have hci := hg2.cell ((Below.cell hb2 (p := ⟨gp, i, none⟩) (World.block_lt_of_cell? w1 _ (hc i (by omega)))).trans (hc i (by omega))) (by show some gp ≠ some gm; intro e; injection e with e; omega)
        have hat := take_get (s := s) (i := i) (by omega)
        generalize hP : (places s).getD i 0 = p at *
        have c1 : wr.cell? ⟨g, 1, none⟩ = some (.map (some gm)) := (blk_cell b2 1).trans rfl
        have hkey := key_of (s.extract p s.size) (by rw [ByteArray.size_extract]; omega)
        obtain ⟨w5, hrun, hm5, htu⟩ := hm2.drew.store keyed Try.underlying152 (by simp only [maxLen]; omega) hkey (plainElem_int Try.underlying3 (WalkArith.wf_i64 (n := (xs.length : Int) + (p : Int)) ⟨by omega, by omega⟩))
        have p1 : (p : Int) ≤ (s.size : Int) := by omega
        have q3 : decide ((xs.length : Int) + (p : Int) ≤ 16383) = true := by simp; omega
        go_upto_region 22 with (fail)
        go_region
        go_wp2
        go_roundg (gk - 1)
        case measure => omega
        case rel => exact ⟨i + 1, _, by first | rfl | (simp; done), by omega, by omega, hm5, by rw [hat, putK, List.foldl_append]; exact HT.out.put _ _, hg2.trans (by have := htu.grown; exact ⟨this.os, this.tape, this.output, this.size, this.block⟩)⟩
      · have q0 : decide ((i : Int) < (nw : Int)) = false := by simp; omega
        have ho := own_other H2.own hg2 (.inr (Ne.symm H2.row_m))
        have hbr := Nat.le_trans H2.base_le hg2.size
        have hrg := H2.row_g
        have f0 := blk_frozen b2 0
        obtain rfl : i = nw := by omega
        go_wp2_with (at_builtin; refine app_str base rfl (.tmp 100) (.tmp 101) 56 9 5 rfl Try.underlying56 Try.underlying9 info_byte _ xs (outN m s) rfl rfl ho hbr (by have := HFIT.out; omega) ?_; intro v1 w6 ho1 hg1; have c6 := hg1.cell c0w hrg; have f6 : w6.frozen? ⟨g, 0, none⟩ = false := (World.frozen?_of_block (hg1.block g (blk_lt b2) hrg)).trans f0; rw [List.length_append] at ho1; obtain ⟨A1, cc1, rfl⟩ := own_slice ho1)
        go_ret
        try rw [if_neg HFIT.out]
        have R := H2.stored2 hg2 hm2 HT.out hg1 (by rw [List.length_append]; exact ho1) (by simp [bytesOf_length]; have := HFIT.out; omega) (by simp [bytesOf_length]; omega)
        have e : putN m s xs.length = putK m s xs.length ((heads s).take i) := by rw [putN, hW]
        exact ⟨rfl, ⟨_, by rw [e]; exact R.1⟩, ((hb1.mono H.base_le).trans (hb2.mono H1.base_le)).trans R.2.1, ((Kp.below hb1).trans (Kp.below hb2)).trans R.2.2⟩
end
end Go.Proofs.Ytjklgdpffmaamaa.Wr

namespace Go.Proofs.Ytjklgdpffmaamaa.Nm
open Go.RowKit Go.PlainAid Go.Proofs.Ytjklgdpffmaamaa.Base Go.Proofs.Ytjklgdpffmaamaa.Oct Go.Proofs.Ytjklgdpffmaamaa.Sl
set_option linter.unusedVariables false

theorem places_any (s : ByteArray) (w : World) : Calls Try.prog 72 #[.string s] w (PlacesPost s w) := by
  by_cases h : s.size ≤ 255
  · exact placesShort s w h
  · exact placesLong s w (by omega)
set_option maxHeartbeats 400000 in
theorem may (s : ByteArray) (w : World) : Calls Try.prog 45 #[.string s] w fun e w' => e = .returned (.bool (nameB s)) ∧ Below w.heap.size w w' := by
  go_enter Try.func45, Try.ntmps45
  go_wp2_with fail
  refine (places_any s _).mono ?_
  rintro e w' ⟨v, rfl, hb, _⟩
  go_wp2
  go_ret
  exact ⟨rfl, hb⟩
theorem placesLongBad {s : ByteArray} {w : World} {v1 : Value} {w1 : World} (h : ¬ s.size ≤ 255) (hb : Below w.heap.size w w1) : PlacesPost s w (.returned (.tuple #[v1, .bool false])) w1 := by
  have e1 : nameB s = false := by unfold nameB; simp; omega
  exact ⟨v1, by rw [e1], hb, fun h => by rw [e1] at h; cases h⟩
set_option maxHeartbeats 1000000 in
theorem rplacesLong (s : ByteArray) (w : World) (h : ¬ s.size ≤ 255) : Calls Try.prog 51 #[.string s] w (PlacesPost s w) := by
  have q : decide ((s.size : Int) ≤ 255) = false := by simp; omega
  have q0 : decide (0 < s.size) = true := decide_eq_true (by omega)
  have H := Lib.hid h
  clear h
  go_enter Try.func51, Try.ntmps51
  go_wp2
  refine wp_loop_rounds 1 ?_
  rw [rounds_succ]
  go_wp2
  go_ret2
  exact placesLongBad H.out (Below.refl _ _)
set_option maxHeartbeats 2000000 in
theorem rplacesShort (s : ByteArray) (w : World) (h : s.size ≤ 255) : Calls Try.prog 51 #[.string s] w (PlacesPost s w) := by
  have q : decide ((s.size : Int) ≤ 255) = true := by simp; omega
  go_enter Try.func51, Try.ntmps51
  go_wp2
  go_loopg [4, 5, 6] (s.size + 65) (fun k v4 v5 v6 wr => ∃ i : Nat, v5 = .int .i64 i ∧ i + k ≤ s.size + 65 ∧ s.size + 65 ≤ i + k ∧ i ≤ s.size + 64 ∧ Rnd s w i v4 wr)
  case atStart => exact ⟨0, rfl, by omega, by omega, by omega, rfl, ⟨[], rfl, Nat.le_refl _, World.ownsRow_nil _ _ _ _⟩, Below.refl _ _⟩
  case round =>
    obtain ⟨i, rfl, hk1, hk2, hk3, hR⟩ := hrel
    have hnm := Lib.hid hR.nm
    have hbel := hR.bel
    by_cases hlt : i < s.size
    · have q0 : decide ((i : Int) < s.size) = true := by simp; omega
      have hb := get_bt s
      have wb : wrap64 (bt s i) = bt s i := w64 (by have := bt_nonneg s i; omega) (by have := bt_le s i; omega)
      obtain ⟨xs, hxs, hxl, hown⟩ := hR.own
      have HX := Lib.hid hxs
      clear hxs
      have hsz := hbel.size
      by_cases hz : bt s i = 0
      · have q1 : (bt s i == 0) = true := by simp [hz]
        have HZ := Lib.hid hz
        clear hz
        go_wp2_with (at_builtin; refine append_row (w0 := w) w.heap.size rfl _ _ 94 3 (.int .i64 0) 1 8 rfl Try.underlying94 info_int rfl (by decide) hown #[.int .i64 i] rfl rfl rfl ?h1 hbel hsz ?hn ?hl ?_)
        case h1 => rfl
        case hn => omega
        case hl => omega
        intro v1 w1 hown1 hbel1
        go_wp2
        go_ret2
        exact placesEnd h hnm.out hlt HZ.out HX.out hown1 hbel1 (by rw [Bool.eq_iff_iff]; simp; omega)
      · have q1 : (bt s i == 0) = false := by simp [hz]
        have HZ := Lib.hid hz
        clear hz
        by_cases h63 : bt s i ≤ 63
        · have q2 : decide (63 < bt s i) = false := by simp; omega
          have H63 := Lib.hid h63
          clear h63
          have ws : wrap64 ((i : Int) + 1 + bt s i) = ((i + 1 + (bt s i).toNat : Nat) : Int) := by
            have := bt_nonneg s i; have := bt_le s i
            rw [w64 (by omega) (by omega)]; omega
          go_wp2_with (at_builtin; refine append_row (w0 := w) w.heap.size rfl _ _ 94 3 (.int .i64 0) 1 8 rfl Try.underlying94 info_int rfl (by decide) hown #[.int .i64 i] rfl rfl rfl ?h1 hbel hsz ?hn ?hl ?_)
          case h1 => rfl
          case hn => omega
          case hl => omega
          intro v1 w1 hown1 hbel1
          go_wp2
          go_roundg (gk - 1 - (bt s i).toNat)
          case measure => omega
          case rel =>
            have := H63.out; have := bt_nonneg s i
            exact ⟨i + 1 + (bt s i).toNat, congrArg _ ws, by omega, by omega, by omega, Rnd.next hnm.out hlt HZ.out H63.out HX.out hxl hown1 hbel1⟩
        · have q2 : decide (63 < bt s i) = true := by simp; omega
          have H63 := Lib.hid h63
          clear h63
          go_wp2_with (at_builtin; refine append_row (w0 := w) w.heap.size rfl _ _ 94 3 (.int .i64 0) 1 8 rfl Try.underlying94 info_int rfl (by decide) hown #[.int .i64 i] rfl rfl rfl ?h1 hbel hsz ?hn ?hl ?_)
          case h1 => rfl
          case hn => omega
          case hl => omega
          intro v1 w1 hown1 hbel1
          go_wp2
          go_ret2
          exact placesBad hnm.out (nameAt_bad hlt (by have := H63.out; omega)) hbel1
    · have q0 : decide ((i : Int) < s.size) = false := by simp; omega
      go_wp2
      go_ret2
      exact placesBad hnm.out (nameAt_out (by omega)) hbel
theorem rplaces_any (s : ByteArray) (w : World) : Calls Try.prog 51 #[.string s] w (PlacesPost s w) := by
  by_cases h : s.size ≤ 255
  · exact rplacesShort s w h
  · exact rplacesLong s w h
set_option maxHeartbeats 400000 in
theorem rmay (s : ByteArray) (w : World) : Calls Try.prog 32 #[.string s] w fun e w' => e = .returned (.bool (nameB s)) ∧ Below w.heap.size w w' := by
  go_enter Try.func32, Try.ntmps32
  go_wp2_with fail
  refine (rplaces_any s _).mono ?_
  rintro e w' ⟨v, rfl, hb, _⟩
  go_wp2
  go_ret
  exact ⟨rfl, hb⟩

/-! ### Where the name ends that begins at a place -/
def zeroAt (s : ByteArray) (i : Nat) : Option Nat :=
  if i < s.size then
    if bt s i = 0 then some i else zeroAt s (i + 1 + (bt s i).toNat)
  else none
termination_by s.size - i
theorem zeroAt_end {s : ByteArray} {i : Nat} (h : i < s.size) (h0 : bt s i = 0) : zeroAt s i = some i := by rw [zeroAt, if_pos h, if_pos h0]
theorem zeroAt_next {s : ByteArray} {i : Nat} (h : i < s.size) (h0 : bt s i ≠ 0) : zeroAt s i = zeroAt s (i + 1 + (bt s i).toNat) := by rw [zeroAt, if_pos h, if_neg h0]
theorem zeroAt_out {s : ByteArray} {i : Nat} (h : s.size ≤ i) : zeroAt s i = none := by rw [zeroAt, if_neg (by omega)]
theorem zeroAt_ge {s : ByteArray} : ∀ (d i p : Nat), s.size - i ≤ d → zeroAt s i = some p → i ≤ p ∧ p < s.size
  | 0, i, p, hd, h => by rw [zeroAt_out (by omega)] at h; cases h
  | d + 1, i, p, hd, h => by
    by_cases hlt : i < s.size
    · by_cases h0 : bt s i = 0
      · rw [zeroAt_end hlt h0] at h
        cases h
        exact ⟨Nat.le_refl _, hlt⟩
      · rw [zeroAt_next hlt h0] at h
        have := zeroAt_ge d _ p (by omega) h
        omega
    · rw [zeroAt_out (by omega)] at h; cases h
/-- The place behind the name that begins at a place; -1: none. -/
def endN (s : ByteArray) (a : Nat) : Int := match zeroAt s a with
  | some p => if nameB (s.extract a (p + 1)) then (p + 1 : Int) else -1
  | none => -1
theorem endN_of {s : ByteArray} {a i : Nat} (hz : zeroAt s i = zeroAt s a) (h : i < s.size) (h0 : bt s i = 0) : endN s a = if nameB (s.extract a (i + 1)) then (i + 1 : Int) else -1 := by
  unfold endN; rw [← hz, zeroAt_end h h0]
theorem endN_out {s : ByteArray} {a i : Nat} (hz : zeroAt s i = zeroAt s a) (h : s.size ≤ i) : endN s a = -1 := by
  unfold endN; rw [← hz, zeroAt_out h]
theorem nameB_long {s : ByteArray} (h : 255 < s.size) : nameB s = false := by unfold nameB; simp; omega
theorem endN_far {s : ByteArray} {i : Nat} (hz : zeroAt s i = zeroAt s 0) (h : 255 ≤ i) : endN s 0 = -1 := by
  unfold endN
  rw [← hz]
  cases hp : zeroAt s i with
  | none => rfl
  | some p =>
    have := zeroAt_ge _ i p (Nat.le_refl _) hp
    simp only
    rw [nameB_long (by rw [ByteArray.size_extract]; omega)]
    rfl
end Go.Proofs.Ytjklgdpffmaamaa.Nm

namespace Go.Proofs.Ytjklgdpffmaamaa.Nm
open Go.RowKit Go.PlainAid Go.Proofs.Ytjklgdpffmaamaa.Base
set_option linter.unusedVariables false
theorem placesAt_bad {s : ByteArray} {i : Nat} (h : i < s.size) (h0 : 63 < bt s i) : placesAt s i = [i] := by
  rw [placesAt, if_pos h, if_neg (by omega), if_pos h0]
theorem shift (h s : ByteArray) : ∀ n i, s.size - i ≤ n → nameAt (h ++ s) (h.size + i) = nameAt s i ∧ placesAt (h ++ s) (h.size + i) = (placesAt s i).map (h.size + ·) := by
  have hz : (h ++ s).size = h.size + s.size := ByteArray.size_append
  intro n
  induction n with
  | zero =>
    intro i hi
    rw [nameAt_out (by omega), nameAt_out (by omega), placesAt, if_neg (by omega), placesAt, if_neg (by omega)]
    exact ⟨rfl, rfl⟩
  | succ n ih =>
    intro i hi
    by_cases hl : i < s.size
    · have hb : bt (h ++ s) (h.size + i) = bt s i := by rw [bt_append_right h s _ (by omega), Nat.add_sub_cancel_left]
      have hl2 : h.size + i < (h ++ s).size := by omega
      by_cases h0 : bt s i = 0
      · rw [nameAt_end hl2 (by rw [hb]; exact h0), nameAt_end hl h0, placesAt_end hl2 (by rw [hb]; exact h0), placesAt_end hl h0]
        refine ⟨?_, rfl⟩
        rw [Bool.eq_iff_iff]; simp; omega
      · by_cases h1 : 63 < bt s i
        · rw [nameAt_bad hl2 (by rw [hb]; exact h1), nameAt_bad hl h1, placesAt_bad hl2 (by rw [hb]; exact h1), placesAt_bad hl h1]
          exact ⟨rfl, rfl⟩
        · have := ih (i + 1 + (bt s i).toNat) (by omega)
          rw [nameAt_next hl2 (by rw [hb]; exact h0) (by rw [hb]; omega), nameAt_next hl h0 (by omega), placesAt_next hl2 (by rw [hb]; exact h0) (by rw [hb]; omega), placesAt_next hl h0 (by omega), hb, show h.size + i + 1 + (bt s i).toNat = h.size + (i + 1 + (bt s i).toNat) by omega]
          exact ⟨this.1, by rw [this.2]; rfl⟩
    · rw [nameAt_out (by omega), nameAt_out (by omega), placesAt, if_neg (by omega), placesAt, if_neg (by omega)]
      exact ⟨rfl, rfl⟩
/-- A label ahead of a name. -/
theorem label_ahead (h s : ByteArray) (k : Nat) (hk : 1 ≤ k) (hk2 : k ≤ 63) (hh : h.size = k + 1) (hb : bt h 0 = (k : Int)) (hs : nameB s = true) (hz : k + 1 + s.size ≤ 255) :
    nameB (h ++ s) = true ∧ places (h ++ s) = 0 :: (places s).map (k + 1 + ·) := by
  have z : (h ++ s).size = h.size + s.size := ByteArray.size_append
  have b0 : bt (h ++ s) 0 = (k : Int) := by rw [bt_append_left h s 0 (by omega)]; exact hb
  have sh := shift h s (s.size) 0 (by omega)
  rw [Nat.add_zero] at sh
  have e : 0 + 1 + (bt (h ++ s) 0).toNat = h.size := by rw [b0]; omega
  have hs2 : nameAt s 0 = true := by unfold nameB at hs; simp at hs; exact hs.2
  refine ⟨?_, ?_⟩
  · unfold nameB
    rw [nameAt_next (by omega) (by rw [b0]; omega) (by rw [b0]; omega), e, sh.1, hs2]
    simp; omega
  · unfold places
    rw [placesAt_next (by omega) (by rw [b0]; omega) (by rw [b0]; omega), e, sh.2, hh]
end Go.Proofs.Ytjklgdpffmaamaa.Nm

namespace Go.Proofs.Ytjklgdpffmaamaa.Wr
open Go.RowKit Go.PlainAid Go.Proofs.Ytjklgdpffmaamaa.Base Go.Proofs.Ytjklgdpffmaamaa.Oct Go.Proofs.Ytjklgdpffmaamaa.Nm
set_option linter.unusedVariables false
abbrev root : ByteArray := ⟨#[0]⟩
theorem name_first {s : ByteArray} (h : nameB s = true) : 0 < s.size ∧ s.size ≤ 255 ∧ nameAt s 0 = true := by
  have h1 := (places_pos h).1
  unfold nameB at h
  simp at h
  refine ⟨?_, h.1, h.2⟩
  by_cases h0 : 0 < s.size
  · exact h0
  · have := h.2; rw [nameAt_out (by omega)] at this; cases this
theorem root_bt : bt root 0 = 0 := by decide +kernel
theorem places_ne (s : ByteArray) (i : Nat) (h : nameAt s i = true) : placesAt s i ≠ [] := by
  by_cases hi : i < s.size
  · rw [placesAt, if_pos hi]; simp
  · rw [nameAt_out (by omega)] at h; cases h
theorem heads_root : heads root = [] := by decide +kernel
theorem ext0 (s : ByteArray) : s.extract 0 s.size = s := by simp
theorem outN_root (m : ByteArray → Option Int) : outN m root = root := by
  unfold outN; rw [heads_root]; rfl
/-! ### Two names with one end -/
section
variable (s hx hy : ByteArray) (hn : nameB s = true) (h0 : s ≠ root) (hs : s.size ≤ 200) (zx : hx.size = 3) (zy : hy.size = 3) (bx : bt hx 0 = 2) (byy : bt hy 0 = 2) (hne : hx ≠ hy)
include hn h0 hs zx zy bx byy hne
end
end Go.Proofs.Ytjklgdpffmaamaa.Wr

namespace Go.Proofs.Ytjklgdpffmaamaa.Oct
open Go.RowKit Go.PlainAid Go.Proofs.Ytjklgdpffmaamaa.Base
set_option linter.unusedVariables false

/-! ### string(make([]byte, n)) -/
def zeros (m : Nat) : ByteArray := strOfNums (List.replicate m 0)
theorem zeros_size (m : Nat) : (zeros m).size = m := by simp [zeros, strOfNums_size]
theorem info_u8 : (Try.prog.info? 5).map (fun i => (i.zero, i.size, i.bytes)) = some (some (.int .u8 0), 1, 1) := by kernel_rfl
theorem make_zeros (m : Nat) (hm : m ≤ 281474976710656) (W : World) : (Instr.makeSlice 56 (.int .i64 (m : Int)) (.int .i64 (m : Int))).run Try.prog W = .ok (.slice (some ⟨W.heap.size, 0, none⟩) m m) (W.alloc (.cells (madeCells #[.int .u8 0] m) 5)) :=
  run_make_row' 56 5 (.int .u8 0) 1 Try.underlying56 info_u8 rfl .i64 .i64 m (by omega) (by omega) W
theorem conv_zeros (m : Nat) (W : World) : (convert 56 9 (.slice (some ⟨W.heap.size, 0, none⟩) m m)).run Try.prog (W.alloc (.cells (madeCells #[.int .u8 0] m) 5)) = .ok (.string (zeros m)) (W.alloc (.cells (madeCells #[.int .u8 0] m) 5)) :=
  run_convert_bytes_arg (P := Try.prog) _ 56 5 Try.underlying56 Try.underlying5 W.heap.size 0 m m (List.replicate m 0) (by simp)
    (fun i hi => by
      have h1 : (madeCells #[Value.int .u8 0] m)[i]? = some (.int .u8 0) := by simp [madeCells, hi, Nat.mod_one]
      rw [Nat.zero_add, World.cell?_alloc_new]
      rw [h1]
      simp [List.getD_eq_getElem?_getD, hi]) 9 Try.underlying9
end Go.Proofs.Ytjklgdpffmaamaa.Oct

namespace Go.Proofs.Ytjklgdpffmaamaa.Wr
open Go.RowKit Go.PlainAid Go.Maps Go.Proofs.Ytjklgdpffmaamaa.Base Go.Proofs.Ytjklgdpffmaamaa.Oct Go.Proofs.Ytjklgdpffmaamaa.Nm Go.Proofs.YtjklgdpffmaamaaW.PrintWords
set_option linter.unusedVariables false
section
variable {base b' g gm size n : Nat} {v vs : Value} {xs : List Int} {ys : List Value} {m : ByteArray → Option Int} {w w' w1 : World} {e : TypeId}
theorem Wr.alloc (H : Wr base w g gm v xs m) (o : Obj) : Wr base (w.alloc o) g gm v xs m := H.below ((Below.refl _ _).alloc (Nat.le_refl _) _)
end
section
variable {P : Program} {ops : Array Oper} {rest : List Oper} {o : Oper} {a : Act} {Q : Exit → Act → World → Prop}
end
end Go.Proofs.Ytjklgdpffmaamaa.Wr

namespace Go.Proofs.Ytjklgdpffmaamaa.Rd
open Go.RowKit Go.PlainAid Go.Proofs.Ytjklgdpffmaamaa.Base Go.Proofs.Ytjklgdpffmaamaa.Oct Go.Proofs.Ytjklgdpffmaamaa.Sl Go.Proofs.Ytjklgdpffmaamaa.Nm
set_option linter.unusedVariables false

theorem zeroAt_next1 {s : ByteArray} {i : Nat} {z : Option Nat} (hz : zeroAt s i = z) (h : i < s.size) (h0 : bt s i ≠ 0) : zeroAt s (i + 1 + (bt s i).toNat) = z := by rw [← zeroAt_next h h0]; exact hz
theorem slice_ab (s : ByteArray) (a b : Nat) (h : a ≤ b) (hb : b ≤ s.size) (w : World) : (Instr.slice 9 (.string s) (some (.int .i64 (a : Int))) (some (.int .i64 (b : Int))) none).run Try.prog w = .ok (.string (s.extract a b)) w := by
  have := run_slice_string (P := Try.prog) w 9 s .i64 .i64 (a : Int) (b : Int) Try.underlying9 (by omega) (by omega) (by omega)
  simpa using this
theorem step1 {s : ByteArray} {i : Nat} (hs : s.size ≤ 9223372036854775000) (h : i < s.size) : wrap64 ((i : Int) + wrap64 (1 + bt s i)) = ((i + 1 + (bt s i).toNat : Nat) : Int) := by
  have := bt_nonneg s i; have := bt_le s i
  rw [w64 (x := 1 + bt s i) (by omega) (by omega), w64 (by omega) (by omega)]; omega
theorem step2 {s : ByteArray} {i : Nat} (hs : s.size ≤ 9223372036854775000) (h : i < s.size) : wrap64 ((i : Int) + 1 + bt s i) = ((i + 1 + (bt s i).toNat : Nat) : Int) := by
  have := bt_nonneg s i; have := bt_le s i
  rw [w64 (by omega) (by omega)]; omega
theorem step3 {s : ByteArray} {i : Nat} (hs : s.size ≤ 9223372036854775000) (h : i < s.size) : wrap64 (wrap64 ((i : Int) + bt s i) + 1) = ((i + 1 + (bt s i).toNat : Nat) : Int) := by
  have := bt_nonneg s i; have := bt_le s i
  rw [w64 (x := (i : Int) + bt s i) (by omega) (by omega), w64 (by omega) (by omega)]; omega

set_option maxHeartbeats 1000000 in
theorem ends (s : ByteArray) (w : World) (hs : s.size ≤ 9223372036854775000) : Calls Try.prog 112 #[.string s] w fun e w' => e = .returned (.int .i64 (endN s 0)) ∧ Below w.heap.size w w' := by
  go_enter Try.func112, Try.ntmps112
  go_wp2
  go_loopg [3] (s.size + 256) (fun k v3 wr => ∃ i : Nat, v3 = .int .i64 i ∧ i + k ≤ s.size + 256 ∧ s.size + 256 ≤ i + k ∧ i ≤ s.size + 255 ∧ zeroAt s i = zeroAt s 0 ∧ w = wr)
  case atStart => exact ⟨0, rfl, by omega, by omega, by omega, rfl, rfl⟩
  case round =>
    obtain ⟨i, rfl, hk1, hk2, hk3, hZ, rfl⟩ := hrel
    have HZ := Lib.hid hZ
    clear hZ
    by_cases hlt : i < s.size
    · have q0 : decide ((i : Int) < s.size) = true := by simp; omega
      by_cases h255 : i < 255
      · have q2 : decide ((i : Int) < 255) = true := by simp; omega
        have hb := get_bt s
        have wb : wrap64 (bt s i) = bt s i := w64 (by have := bt_nonneg s i; omega) (by have := bt_le s i; omega)
        have w1 : wrap64 ((i : Int) + 1) = ((i + 1 : Nat) : Int) := by rw [w64 (by omega) (by omega)]; omega
        by_cases hz : bt s i = 0
        · have q1 : (bt s i == 0) = true := by simp [hz]
          have H0 := Lib.hid hz
          clear hz
          cases hm : nameB (s.extract 0 (i + 1)) with
          | true =>
            go_wp2_with fail
            refine (may _ _).mono ?_
            rintro e w2 ⟨rfl, hb2⟩
            rw [hm]
            go_wp2
            go_ret
            exact ⟨by rw [endN_of HZ.out hlt H0.out, hm]; simp, hb2⟩
          | false =>
            go_wp2_with fail
            refine (may _ _).mono ?_
            rintro e w2 ⟨rfl, hb2⟩
            rw [hm]
            go_wp2
            go_ret
            exact ⟨by rw [endN_of HZ.out hlt H0.out, hm]; simp, hb2⟩
        · have q1 : (bt s i == 0) = false := by simp [hz]
          have H0 := Lib.hid hz
          clear hz
          have ws := step1 hs hlt
          go_wp2
          go_roundg (gk - 1 - (bt s i).toNat)
          case measure => omega
          case rel =>
            have := bt_nonneg s i; have := bt_le s i
            exact ⟨i + 1 + (bt s i).toNat, congrArg _ ws, by omega, by omega, by omega, zeroAt_next1 HZ.out hlt H0.out, rfl⟩
      · have q2 : decide ((i : Int) < 255) = false := by simp; omega
        go_wp2
        go_ret
        exact ⟨by rw [endN_far HZ.out (by omega)]; rfl, Below.refl _ _⟩
    · have q0 : decide ((i : Int) < s.size) = false := by simp; omega
      go_wp2
      go_ret
      exact ⟨by rw [endN_out HZ.out (by omega)]; rfl, Below.refl _ _⟩
set_option maxRecDepth 100000 in
set_option maxHeartbeats 1000000 in
theorem whole (s : ByteArray) (a : Nat) (w : World) (hs : s.size ≤ 9223372036854775000) (ha : a ≤ s.size) : Calls Try.prog 106 #[.string s, .int .i64 a] w fun e w' => e = .returned (.int .i64 (endN s a)) ∧ Below w.heap.size w w' := by
  go_enter Try.func106, Try.ntmps106
  go_wp2
  go_loopg [5, 6] (s.size + 256 - a) (fun k v5 v6 wr => ∃ i : Nat, v5 = .int .i64 i ∧ i + k ≤ s.size + 256 ∧ s.size + 256 ≤ i + k ∧ i ≤ s.size + 255 ∧ a ≤ i ∧ zeroAt s i = zeroAt s a ∧ w = wr)
  case atStart => exact ⟨a, rfl, by omega, by omega, by omega, by omega, rfl, rfl⟩
  case round =>
    obtain ⟨i, rfl, hk1, hk2, hk3, hai, hZ, rfl⟩ := hrel
    have HZ := Lib.hid hZ
    clear hZ
    by_cases hlt : i < s.size
    · have q0 : decide ((i : Int) < s.size) = true := by simp; omega
      have hb := get_bt s
      have wb : wrap64 (bt s i) = bt s i := w64 (by have := bt_nonneg s i; omega) (by have := bt_le s i; omega)
      have w1 : wrap64 ((i : Int) + 1) = ((i + 1 : Nat) : Int) := by rw [w64 (by omega) (by omega)]; omega
      have hsl := slice_ab s a (i + 1) (by omega) (by omega) w
      rw [show ((i + 1 : Nat) : Int) = (i : Int) + 1 from by omega] at hsl
      by_cases hz : bt s i = 0
      · have q1 : (bt s i == 0) = true := by simp [hz]
        have H0 := Lib.hid hz
        clear hz
        cases hm : nameB (s.extract a (i + 1)) with
        | true =>
          go_wp2_with fail
          refine (rmay _ _).mono ?_
          rintro e w2 ⟨rfl, hb2⟩
          rw [hm]
          go_wp2
          go_ret
          exact ⟨by rw [endN_of HZ.out hlt H0.out, hm]; simp, hb2⟩
        | false =>
          go_wp2_with fail
          refine (rmay _ _).mono ?_
          rintro e w2 ⟨rfl, hb2⟩
          rw [hm]
          go_wp2
          go_ret
          exact ⟨by rw [endN_of HZ.out hlt H0.out, hm]; simp, hb2⟩
      · have q1 : (bt s i == 0) = false := by simp [hz]
        have H0 := Lib.hid hz
        clear hz
        have ws := step3 hs hlt
        go_wp2
        go_roundg (gk - 1 - (bt s i).toNat)
        case measure => omega
        case rel =>
          have := bt_nonneg s i; have := bt_le s i
          exact ⟨i + 1 + (bt s i).toNat, congrArg _ ws, by omega, by omega, by omega, by omega, zeroAt_next1 HZ.out hlt H0.out, rfl⟩
    · have q0 : decide ((i : Int) < s.size) = false := by simp; omega
      go_wp2
      go_ret
      exact ⟨by rw [endN_out HZ.out (by omega)]; rfl, Below.refl _ _⟩

/-- From a place on: do texts follow up to the end? -/
def textsAt (s : ByteArray) (i : Nat) : Bool :=
  if i < s.size then textsAt s (i + 1 + (bt s i).toNat) else decide (i = s.size)
termination_by s.size - i
theorem textsAt_next {s : ByteArray} {i : Nat} (h : i < s.size) : textsAt s i = textsAt s (i + 1 + (bt s i).toNat) := by rw [textsAt, if_pos h]
theorem textsAt_next1 {s : ByteArray} {i : Nat} {z : Bool} (hz : textsAt s i = z) (h : i < s.size) : textsAt s (i + 1 + (bt s i).toNat) = z := by rw [← textsAt_next h]; exact hz
theorem textsAt_end {s : ByteArray} {i : Nat} (h : ¬ i < s.size) : textsAt s i = decide (i = s.size) := by rw [textsAt, if_neg h]
theorem isEmpty_no {s : ByteArray} (h : ¬ s.size = 0) : s.toList.isEmpty = false := by
  rw [ByteArray.toList_eq]
  cases e : s.data.toList with
  | nil => exact absurd (by rw [← len_data, e]; rfl) h
  | cons a b => rfl
theorem isEmpty_yes {s : ByteArray} (h : s.size = 0) : s.toList.isEmpty = true := by
  rw [ByteArray.toList_eq]
  cases e : s.data.toList with
  | nil => rfl
  | cons a b => exact absurd h (by rw [← len_data, e]; simp)
/-- One or more texts? -/
def textsB (s : ByteArray) : Bool := decide (0 < s.size) && textsAt s 0

set_option maxHeartbeats 1000000 in
theorem texts (s : ByteArray) (w : World) (hs : s.size ≤ 9223372036854775000) : Calls Try.prog 111 #[.string s] w fun e w' => e = .returned (.bool (textsB s)) ∧ w = w' := by
  go_enter Try.func111, Try.ntmps111
  go_wp2
  go_loopg [3] (s.size + 256) (fun k v3 wr => ∃ i : Nat, v3 = .int .i64 i ∧ i + k ≤ s.size + 256 ∧ s.size + 256 ≤ i + k ∧ i ≤ s.size + 255 ∧ textsAt s i = textsAt s 0 ∧ w = wr)
  case atStart => exact ⟨0, rfl, by omega, by omega, by omega, rfl, rfl⟩
  case round =>
    obtain ⟨i, rfl, hk1, hk2, hk3, hZ, rfl⟩ := hrel
    have HZ := Lib.hid hZ
    clear hZ
    by_cases hlt : i < s.size
    · have q0 : decide ((i : Int) < s.size) = true := by simp; omega
      have hb := get_bt s
      have wb : wrap64 (bt s i) = bt s i := w64 (by have := bt_nonneg s i; omega) (by have := bt_le s i; omega)
      have ws := step1 hs hlt
      go_wp2
      go_roundg (gk - 1 - (bt s i).toNat)
      case measure => omega
      case rel =>
        have := bt_nonneg s i; have := bt_le s i
        exact ⟨i + 1 + (bt s i).toNat, congrArg _ ws, by omega, by omega, by omega, textsAt_next1 HZ.out hlt, rfl⟩
    · have q0 : decide ((i : Int) < s.size) = false := by simp; omega
      have e1 : textsB s = (decide (0 < s.size) && decide (i = s.size)) := by unfold textsB; rw [← HZ.out, textsAt_end hlt]
      have E := Lib.hid e1
      clear e1
      by_cases h0 : s.size = 0
      · have q1 : s.toList.isEmpty = true := isEmpty_yes h0
        have e2 : textsB s = false := by rw [E.out]; simp; omega
        go_wp2
        go_ret
        exact ⟨by rw [e2]; rfl, rfl⟩
      · have q1 : s.toList.isEmpty = false := isEmpty_no h0
        by_cases hi : i = s.size
        · have q3 : ((i : Int) == s.size) = true := by simp; omega
          have e2 : textsB s = true := by rw [E.out]; simp; omega
          go_wp2
          go_ret
          exact ⟨by rw [e2]; rfl, rfl⟩
        · have q3 : ((i : Int) == s.size) = false := by simp; omega
          have e2 : textsB s = false := by rw [E.out]; simp; omega
          go_wp2
          go_ret
          exact ⟨by rw [e2]; rfl, rfl⟩

set_option maxHeartbeats 1000000 in
theorem rtexts (s : ByteArray) (w : World) (hs : s.size ≤ 9223372036854775000) : Calls Try.prog 107 #[.string s] w fun e w' => e = .returned (.bool (textsB s)) ∧ w = w' := by
  go_enter Try.func107, Try.ntmps107
  go_wp2
  go_loopg [3] (s.size + 256) (fun k v3 wr => ∃ i : Nat, v3 = .int .i64 i ∧ i + k ≤ s.size + 256 ∧ s.size + 256 ≤ i + k ∧ i ≤ s.size + 255 ∧ textsAt s i = textsAt s 0 ∧ w = wr)
  case atStart => exact ⟨0, rfl, by omega, by omega, by omega, rfl, rfl⟩
  case round =>
    obtain ⟨i, rfl, hk1, hk2, hk3, hZ, rfl⟩ := hrel
    have HZ := Lib.hid hZ
    clear hZ
    by_cases hlt : i < s.size
    · have q0 : decide ((i : Int) < s.size) = true := by simp; omega
      have hb := get_bt s
      have wb : wrap64 (bt s i) = bt s i := w64 (by have := bt_nonneg s i; omega) (by have := bt_le s i; omega)
      have ws := step2 hs hlt
      go_wp2
      go_roundg (gk - 1 - (bt s i).toNat)
      case measure => omega
      case rel =>
        have := bt_nonneg s i; have := bt_le s i
        exact ⟨i + 1 + (bt s i).toNat, congrArg _ ws, by omega, by omega, by omega, textsAt_next1 HZ.out hlt, rfl⟩
    · have q0 : decide ((i : Int) < s.size) = false := by simp; omega
      have e1 : textsB s = (decide (0 < s.size) && decide (i = s.size)) := by unfold textsB; rw [← HZ.out, textsAt_end hlt]
      have E := Lib.hid e1
      clear e1
      by_cases hi : i = s.size
      · have q3 : ((i : Int) == s.size) = true := by simp; omega
        by_cases h0 : s.size = 0
        · have q4 : decide (0 < i) = false := by simp; omega
          have e2 : textsB s = false := by rw [E.out]; simp; omega
          have HI := Lib.hid hi
          have H0 := Lib.hid h0
          clear hi h0
          go_wp2
          go_ret
          exact ⟨by rw [e2]; rfl, rfl⟩
        · have q4 : decide (0 < i) = true := by simp; omega
          have e2 : textsB s = true := by rw [E.out]; simp; omega
          have HI := Lib.hid hi
          clear hi
          go_wp2
          go_ret
          exact ⟨by rw [e2]; rfl, rfl⟩
      · have q3 : ((i : Int) == s.size) = false := by simp; omega
        have e2 : textsB s = false := by rw [E.out]; simp; omega
        go_wp2
        go_ret
        exact ⟨by rw [e2]; rfl, rfl⟩
end Go.Proofs.Ytjklgdpffmaamaa.Rd

namespace Go.Proofs.Ytjklgdpffmaamaa.Rd
open Go.RowKit Go.PlainAid Go.Proofs.Ytjklgdpffmaamaa.Base Go.Proofs.Ytjklgdpffmaamaa.Oct Go.Proofs.Ytjklgdpffmaamaa.Sl Go.Proofs.Ytjklgdpffmaamaa.Nm
set_option linter.unusedVariables false

theorem endN_bd {s : ByteArray} {a : Nat} (h : 0 ≤ endN s a) : (a : Int) < endN s a ∧ endN s a ≤ s.size := by
  unfold endN at h ⊢
  cases hz : zeroAt s a with
  | none => rw [hz] at h; simp at h
  | some p =>
    have := zeroAt_ge _ a p (Nat.le_refl _) hz
    rw [hz] at h
    simp only at h ⊢
    split
    · omega
    · rename_i hn; rw [if_neg hn] at h; omega
theorem endN_neg {s : ByteArray} {a : Nat} (h : endN s a < 0) : endN s a = -1 := by
  unfold endN at h ⊢
  cases hz : zeroAt s a with
  | none => rfl
  | some p =>
    rw [hz] at h
    simp only at h ⊢
    split
    · rename_i hn; rw [if_pos hn] at h; omega
    · rfl
theorem bt_extract (s : ByteArray) (a i : Nat) : bt (s.extract a s.size) i = bt s (a + i) := by
  rw [bt_data, bt_data, ByteArray.data_extract, Array.toList_extract]
  congr 1
  congr 1
  simp only [List.getD_eq_getElem?_getD, List.extract_eq_take_drop, List.getElem?_take, List.getElem?_drop]
  by_cases h : i < s.size - a
  · rw [if_pos h]
  · rw [if_neg h, List.getElem?_eq_none (by rw [len_data]; omega)]
theorem zeroAt_shift (s : ByteArray) (a : Nat) (ha : a ≤ s.size) : ∀ (d i : Nat), s.size - (a + i) ≤ d → zeroAt (s.extract a s.size) i = (zeroAt s (a + i)).map (· - a)
  | 0, i, hd => by rw [zeroAt_out (by rw [ByteArray.size_extract]; omega), zeroAt_out (by omega)]; rfl
  | d + 1, i, hd => by
    by_cases hlt : a + i < s.size
    · by_cases h0 : bt s (a + i) = 0
      · rw [zeroAt_end (by rw [ByteArray.size_extract]; omega) (by rw [bt_extract]; exact h0), zeroAt_end hlt h0]
        simp
      · rw [zeroAt_next (by rw [ByteArray.size_extract]; omega) (by rw [bt_extract]; exact h0), zeroAt_next hlt h0, bt_extract, zeroAt_shift s a ha d _ (by omega)]
        rw [show a + (i + 1 + (bt s (a + i)).toNat) = a + i + 1 + (bt s (a + i)).toNat by omega]
    · rw [zeroAt_out (by rw [ByteArray.size_extract]; omega), zeroAt_out (by omega)]; rfl
theorem endN_shift (s : ByteArray) (a : Nat) (ha : a ≤ s.size) : endN (s.extract a s.size) 0 = if endN s a < 0 then -1 else endN s a - a := by
  have e := zeroAt_shift s a ha _ 0 (Nat.le_refl _)
  unfold endN
  rw [e]
  simp only [Nat.add_zero]
  cases hz : zeroAt s a with
  | none => rfl
  | some p =>
    have := zeroAt_ge _ a p (Nat.le_refl _) hz
    simp only [Option.map_some]
    have ex : (s.extract a s.size).extract 0 (p - a + 1) = s.extract a (p + 1) := by
      rw [ByteArray.extract_extract]; congr 1 <;> omega
    rw [ex]
    split
    · rw [if_neg (by omega)]; omega
    · rfl
/-- Two names, and five numbers? -/
def soaB (s : ByteArray) : Bool := decide (0 ≤ endN s 0) && (decide (0 ≤ endN s (endN s 0).toNat) && decide ((s.size : Int) = endN s (endN s 0).toNat + 20))
theorem slice_a (s : ByteArray) (a : Nat) (h : a ≤ s.size) (w : World) : (Instr.slice 9 (.string s) (some (.int .i64 (a : Int))) none none).run Try.prog w = .ok (.string (s.extract a s.size)) w := by
  have hj : 0 ≤ (a : Int) ∧ (a : Int) ≤ (s.size : Int) := by omega
  simp [Instr.slice, Instr.sliceBounds, Instr.sliceBound, asIntOf, run_underlying Try.underlying9, hj]
  try omega
set_option maxHeartbeats 1000000 in
theorem soa (s : ByteArray) (w : World) (hs : s.size ≤ 9223372036854775000) : Calls Try.prog 110 #[.string s] w fun e w' => e = .returned (.bool (soaB s)) ∧ Below w.heap.size w w' := by
  have hB := @endN_bd s 0
  have hN := @endN_neg s 0
  by_cases h : endN s 0 < 0
  · have e1 : soaB s = false := by unfold soaB; simp; omega
    have q : endN s 0 = -1 := hN h
    go_enter Try.func110, Try.ntmps110
    go_wp2_with fail
    refine (ends s _ hs).mono ?_
    rintro e w1 ⟨rfl, hb1⟩
    rw [q]
    go_wp2
    go_ret
    exact ⟨by rw [e1]; rfl, hb1⟩
  · obtain ⟨n, hn⟩ : ∃ n : Nat, endN s 0 = n := ⟨(endN s 0).toNat, by omega⟩
    have hnb := hB (by omega)
    rw [hn] at hnb
    have hle : n ≤ s.size := by omega
    have q1 : decide ((n : Int) < 0) = false := by simp
    have hsh := endN_shift s n hle
    have hB2 := @endN_bd s n
    have hsz : (s.extract n s.size).size ≤ 9223372036854775000 := by rw [ByteArray.size_extract]; omega
    have e1 : soaB s = (decide (0 ≤ endN s n) && decide ((s.size : Int) = endN s n + 20)) := by unfold soaB; rw [hn]; simp
    by_cases h2 : endN s n < 0
    · rw [if_pos h2] at hsh
      have e2 : soaB s = false := by rw [e1]; simp; omega
      go_enter Try.func110, Try.ntmps110
      go_wp2_with fail
      refine (ends s _ hs).mono ?_
      rintro e w1 ⟨rfl, hb1⟩
      rw [hn]
      have hsl := slice_a s n hle w1
      go_wp2_with fail
      refine (ends _ _ hsz).mono ?_
      rintro e w2 ⟨rfl, hb2⟩
      rw [hsh]
      go_wp2
      go_ret
      exact ⟨by rw [e2]; rfl, below_next hb1 hb2⟩
    · obtain ⟨m, hm⟩ : ∃ m : Nat, endN s n = m := ⟨(endN s n).toNat, by omega⟩
      have hmb := hB2 (by omega)
      rw [if_neg h2, hm] at hsh
      rw [hm] at hmb
      obtain ⟨k, hk⟩ : ∃ k : Nat, (m : Int) - n = k := ⟨m - n, by omega⟩
      rw [hk] at hsh
      have q2 : decide ((k : Int) < 0) = false := by simp
      have w1' : wrap64 ((s.size : Int) - n) = (s.size : Int) - n := w64 (by omega) (by omega)
      have w2' : wrap64 ((s.size : Int) - n - k) = (s.size : Int) - n - k := w64 (by omega) (by omega)
      have e2 : soaB s = ((s.size : Int) - n - k == 20) := by rw [e1, hm, Bool.eq_iff_iff]; simp; omega
      have hn' := hn
      clear hmb hB hB2 hN e1 h h2 hm hn hnb hk
      have E2 := Lib.hid e2
      clear e2
      go_enter Try.func110, Try.ntmps110
      go_wp2_with fail
      refine (ends s _ hs).mono ?_
      rintro e w1 ⟨rfl, hb1⟩
      rw [hn']
      have hsl := slice_a s n hle w1
      go_wp2_with fail
      refine (ends _ _ hsz).mono ?_
      rintro e w2 ⟨rfl, hb2⟩
      rw [hsh]
      go_wp2
      go_ret
      exact ⟨by rw [E2.out]; rfl, below_next hb1 hb2⟩
/-- May data be for a type? -/
def mayD (t : Int) (s : ByteArray) : Bool :=
  if t < 1 then false else if 65535 < t then false else if 65535 < s.size then false else
  if t = 1 then decide (s.size = 4) else if t = 28 then decide (s.size = 16) else
  if t = 2 then nameB s else if t = 5 then nameB s else if t = 12 then nameB s else
  if t = 15 then decide (2 ≤ s.size) && nameB (s.extract 2 s.size) else
  if t = 6 then soaB s else if t = 16 then textsB s else true
end Go.Proofs.Ytjklgdpffmaamaa.Rd

namespace Go.Proofs.Ytjklgdpffmaamaa.Rd
open Go.RowKit Go.PlainAid Go.Proofs.Ytjklgdpffmaamaa.Base Go.Proofs.Ytjklgdpffmaamaa.Oct Go.Proofs.Ytjklgdpffmaamaa.Sl Go.Proofs.Ytjklgdpffmaamaa.Nm
set_option linter.unusedVariables false

theorem mayD_body {t : Int} {s : ByteArray} (h1 : ¬ t < 1) (h2 : ¬ 65535 < t) (h3 : ¬ 65535 < s.size) : mayD t s =
    if t = 1 then decide (s.size = 4) else if t = 28 then decide (s.size = 16) else
    if t = 2 then nameB s else if t = 5 then nameB s else if t = 12 then nameB s else
    if t = 15 then decide (2 ≤ s.size) && nameB (s.extract 2 s.size) else
    if t = 6 then soaB s else if t = 16 then textsB s else true := by
  unfold mayD; rw [if_neg h1, if_neg h2, if_neg h3]
theorem nameB_small {s : ByteArray} (h : s.size = 0) : nameB s = false := by
  unfold nameB; rw [nameAt_out (by omega)]; simp

set_option maxRecDepth 100000 in
set_option maxHeartbeats 1000000 in
theorem dmayOut (t : Int) (s : ByteArray) (w : World) (hs : s.size ≤ 9223372036854775000) (h : t < 1 ∨ 65535 < t ∨ 65535 < s.size) : Calls Try.prog 102 #[.int .i64 t, .string s] w fun e w' => e = .returned (.bool (mayD t s)) ∧ Below w.heap.size w w' := by
  have e1 : mayD t s = false := by
    unfold mayD
    by_cases h1 : t < 1
    · rw [if_pos h1]
    · rw [if_neg h1]
      by_cases h2 : 65535 < t
      · rw [if_pos h2]
      · rw [if_neg h2, if_pos (by omega)]
  by_cases h1 : t < 1
  · have q1 : decide (t < 1) = true := decide_eq_true h1
    clear h
    go_enter Try.func102, Try.ntmps102
    go_wp2
    go_ret
    exact ⟨by first | rfl | (rw [e1]; rfl), Below.refl _ _⟩
  · have q1 : decide (t < 1) = false := decide_eq_false h1
    by_cases h2 : 65535 < t
    · have q2 : decide (65535 < t) = true := decide_eq_true h2
      clear h
      go_enter Try.func102, Try.ntmps102
      go_wp2
      go_ret
      exact ⟨by first | rfl | (rw [e1]; rfl), Below.refl _ _⟩
    · have q2 : decide (65535 < t) = false := decide_eq_false h2
      have q3 : decide ((65535 : Int) < s.size) = true := by simp; omega
      clear h
      go_enter Try.func102, Try.ntmps102
      go_wp2
      go_ret
      exact ⟨by first | rfl | (rw [e1]; rfl), Below.refl _ _⟩

set_option maxRecDepth 100000 in
set_option maxHeartbeats 1000000 in
theorem dmay1 (s : ByteArray) (w : World) (hs : s.size ≤ 9223372036854775000) (h3 : ¬ 65535 < s.size) : Calls Try.prog 102 #[.int .i64 1, .string s] w fun e w' => e = .returned (.bool (mayD 1 s)) ∧ Below w.heap.size w w' := by
  have q3 : decide ((65535 : Int) < s.size) = false := by simp; omega
  have hm : mayD 1 s = _ := mayD_body (t := 1) (by decide) (by decide) h3
  have e1 : mayD 1 s = ((s.size : Int) == 4) := by rw [hm, Bool.eq_iff_iff]; simp; omega
  have E := Lib.hid e1
  clear hm e1
  go_enter Try.func102, Try.ntmps102
  go_wp2
  go_ret
  exact ⟨by rw [E.out]; rfl, Below.refl _ _⟩

set_option maxRecDepth 100000 in
set_option maxHeartbeats 1000000 in
theorem dmay28 (s : ByteArray) (w : World) (hs : s.size ≤ 9223372036854775000) (h3 : ¬ 65535 < s.size) : Calls Try.prog 102 #[.int .i64 28, .string s] w fun e w' => e = .returned (.bool (mayD 28 s)) ∧ Below w.heap.size w w' := by
  have q3 : decide ((65535 : Int) < s.size) = false := by simp; omega
  have hm : mayD 28 s = _ := mayD_body (t := 28) (by decide) (by decide) h3
  have e1 : mayD 28 s = ((s.size : Int) == 16) := by rw [hm, Bool.eq_iff_iff]; simp; omega
  have E := Lib.hid e1
  clear hm e1
  go_enter Try.func102, Try.ntmps102
  go_wp2
  go_ret
  exact ⟨by rw [E.out]; rfl, Below.refl _ _⟩

set_option maxRecDepth 100000 in
set_option maxHeartbeats 1000000 in
theorem dmay2 (s : ByteArray) (w : World) (hs : s.size ≤ 9223372036854775000) (h3 : ¬ 65535 < s.size) : Calls Try.prog 102 #[.int .i64 2, .string s] w fun e w' => e = .returned (.bool (mayD 2 s)) ∧ Below w.heap.size w w' := by
  have q3 : decide ((65535 : Int) < s.size) = false := by simp; omega
  have hm : mayD 2 s = _ := mayD_body (t := 2) (by decide) (by decide) h3
  have e1 : mayD 2 s = nameB s := by rw [hm]; simp
  have E := Lib.hid e1
  clear hm e1
  go_enter Try.func102, Try.ntmps102
  go_wp2_with fail
  refine (may s _).mono ?_
  rintro e w1 ⟨rfl, hb1⟩
  go_wp2
  go_ret
  exact ⟨by rw [E.out]; rfl, hb1⟩

set_option maxRecDepth 100000 in
set_option maxHeartbeats 1000000 in
theorem dmay5 (s : ByteArray) (w : World) (hs : s.size ≤ 9223372036854775000) (h3 : ¬ 65535 < s.size) : Calls Try.prog 102 #[.int .i64 5, .string s] w fun e w' => e = .returned (.bool (mayD 5 s)) ∧ Below w.heap.size w w' := by
  have q3 : decide ((65535 : Int) < s.size) = false := by simp; omega
  have hm : mayD 5 s = _ := mayD_body (t := 5) (by decide) (by decide) h3
  have e1 : mayD 5 s = nameB s := by rw [hm]; simp
  have E := Lib.hid e1
  clear hm e1
  go_enter Try.func102, Try.ntmps102
  go_wp2_with fail
  refine (may s _).mono ?_
  rintro e w1 ⟨rfl, hb1⟩
  go_wp2
  go_ret
  exact ⟨by rw [E.out]; rfl, hb1⟩

set_option maxRecDepth 100000 in
set_option maxHeartbeats 1000000 in
theorem dmay12 (s : ByteArray) (w : World) (hs : s.size ≤ 9223372036854775000) (h3 : ¬ 65535 < s.size) : Calls Try.prog 102 #[.int .i64 12, .string s] w fun e w' => e = .returned (.bool (mayD 12 s)) ∧ Below w.heap.size w w' := by
  have q3 : decide ((65535 : Int) < s.size) = false := by simp; omega
  have hm : mayD 12 s = _ := mayD_body (t := 12) (by decide) (by decide) h3
  have e1 : mayD 12 s = nameB s := by rw [hm]; simp
  have E := Lib.hid e1
  clear hm e1
  go_enter Try.func102, Try.ntmps102
  go_wp2_with fail
  refine (may s _).mono ?_
  rintro e w1 ⟨rfl, hb1⟩
  go_wp2
  go_ret
  exact ⟨by rw [E.out]; rfl, hb1⟩

set_option maxRecDepth 100000 in
set_option maxHeartbeats 1000000 in
theorem dmay15 (s : ByteArray) (w : World) (hs : s.size ≤ 9223372036854775000) (h3 : ¬ 65535 < s.size) : Calls Try.prog 102 #[.int .i64 15, .string s] w fun e w' => e = .returned (.bool (mayD 15 s)) ∧ Below w.heap.size w w' := by
  have q3 : decide ((65535 : Int) < s.size) = false := by simp; omega
  have hm : mayD 15 s = _ := mayD_body (t := 15) (by decide) (by decide) h3
  by_cases h2 : 2 ≤ s.size
  · have q4 : decide ((2 : Int) ≤ s.size) = true := by simp; omega
    have e1 : mayD 15 s = nameB (s.extract 2 s.size) := by rw [hm]; simp [h2]
    have E := Lib.hid e1
    have hsl := slice_a s 2 h2 w
    clear hm e1
    go_enter Try.func102, Try.ntmps102
    go_wp2_with fail
    refine (may _ _).mono ?_
    rintro e w1 ⟨rfl, hb1⟩
    go_wp2
    go_ret
    exact ⟨by rw [E.out]; rfl, hb1⟩
  · have q4 : decide ((2 : Int) ≤ s.size) = false := by simp; omega
    have e1 : mayD 15 s = false := by rw [hm]; simp [h2]
    have E := Lib.hid e1
    clear hm e1
    go_enter Try.func102, Try.ntmps102
    go_wp2
    go_ret
    exact ⟨by rw [E.out]; rfl, Below.refl _ _⟩

set_option maxRecDepth 100000 in
set_option maxHeartbeats 1000000 in
theorem dmay6 (s : ByteArray) (w : World) (hs : s.size ≤ 9223372036854775000) (h3 : ¬ 65535 < s.size) : Calls Try.prog 102 #[.int .i64 6, .string s] w fun e w' => e = .returned (.bool (mayD 6 s)) ∧ Below w.heap.size w w' := by
  have q3 : decide ((65535 : Int) < s.size) = false := by simp; omega
  have hm : mayD 6 s = _ := mayD_body (t := 6) (by decide) (by decide) h3
  have e1 : mayD 6 s = soaB s := by rw [hm]; simp
  have E := Lib.hid e1
  clear hm e1
  go_enter Try.func102, Try.ntmps102
  go_wp2_with fail
  refine (soa s _ hs).mono ?_
  rintro e w1 ⟨rfl, hb1⟩
  go_wp2
  go_ret
  exact ⟨by rw [E.out]; rfl, hb1⟩

set_option maxRecDepth 100000 in
set_option maxHeartbeats 1000000 in
theorem dmay16 (s : ByteArray) (w : World) (hs : s.size ≤ 9223372036854775000) (h3 : ¬ 65535 < s.size) : Calls Try.prog 102 #[.int .i64 16, .string s] w fun e w' => e = .returned (.bool (mayD 16 s)) ∧ Below w.heap.size w w' := by
  have q3 : decide ((65535 : Int) < s.size) = false := by simp; omega
  have hm : mayD 16 s = _ := mayD_body (t := 16) (by decide) (by decide) h3
  have e1 : mayD 16 s = textsB s := by rw [hm]; simp
  have E := Lib.hid e1
  clear hm e1
  go_enter Try.func102, Try.ntmps102
  go_wp2_with fail
  refine (texts s _ hs).mono ?_
  rintro e w1 ⟨rfl, rfl⟩
  go_wp2
  go_ret
  exact ⟨by rw [E.out]; rfl, Below.refl _ _⟩

set_option maxRecDepth 100000 in
set_option maxHeartbeats 1000000 in
theorem dmayRest (t : Int) (s : ByteArray) (w : World) (hs : s.size ≤ 9223372036854775000) (h1 : ¬ t < 1) (h2 : ¬ 65535 < t) (h3 : ¬ 65535 < s.size) (k1 : ¬ t = 1) (k28 : ¬ t = 28) (k2 : ¬ t = 2) (k5 : ¬ t = 5) (k12 : ¬ t = 12) (k15 : ¬ t = 15) (k6 : ¬ t = 6) (k16 : ¬ t = 16) : Calls Try.prog 102 #[.int .i64 t, .string s] w fun e w' => e = .returned (.bool (mayD t s)) ∧ Below w.heap.size w w' := by
  have e1 : mayD t s = true := by rw [mayD_body h1 h2 h3]; simp [k1, k28, k2, k5, k12, k15, k6, k16]
  have p1 : decide (t < 1) = false := decide_eq_false h1
  have p2 : decide (65535 < t) = false := decide_eq_false h2
  have p3 : decide ((65535 : Int) < s.size) = false := by simp; omega
  have q1 : (t == 1) = false := by simp [k1]
  have q28 : (t == 28) = false := by simp [k28]
  have q2 : (t == 2) = false := by simp [k2]
  have q5 : (t == 5) = false := by simp [k5]
  have q12 : (t == 12) = false := by simp [k12]
  have q15 : (t == 15) = false := by simp [k15]
  have q6 : (t == 6) = false := by simp [k6]
  have q16 : (t == 16) = false := by simp [k16]
  clear h1 h2 h3 k1 k28 k2 k5 k12 k15 k6 k16
  go_enter Try.func102, Try.ntmps102
  go_wp2
  go_ret
  exact ⟨by first | rfl | (rw [e1]; rfl), Below.refl _ _⟩

theorem dmay (t : Int) (s : ByteArray) (w : World) (hs : s.size ≤ 9223372036854775000) : Calls Try.prog 102 #[.int .i64 t, .string s] w fun e w' => e = .returned (.bool (mayD t s)) ∧ Below w.heap.size w w' := by
  by_cases h1 : t < 1
  · exact dmayOut t s w hs (.inl h1)
  by_cases h2 : 65535 < t
  · exact dmayOut t s w hs (.inr (.inl h2))
  by_cases h3 : 65535 < s.size
  · exact dmayOut t s w hs (.inr (.inr h3))
  by_cases k1 : t = 1
  · subst k1; exact dmay1 s w hs h3
  by_cases k28 : t = 28
  · subst k28; exact dmay28 s w hs h3
  by_cases k2 : t = 2
  · subst k2; exact dmay2 s w hs h3
  by_cases k5 : t = 5
  · subst k5; exact dmay5 s w hs h3
  by_cases k12 : t = 12
  · subst k12; exact dmay12 s w hs h3
  by_cases k15 : t = 15
  · subst k15; exact dmay15 s w hs h3
  by_cases k6 : t = 6
  · subst k6; exact dmay6 s w hs h3
  by_cases k16 : t = 16
  · subst k16; exact dmay16 s w hs h3
  exact dmayRest t s w hs h1 h2 h3 k1 k28 k2 k5 k12 k15 k6 k16

set_option maxRecDepth 100000 in
set_option maxHeartbeats 1000000 in
theorem rdmayOut (t : Int) (s : ByteArray) (w : World) (hs : s.size ≤ 9223372036854775000) (h : t < 1 ∨ 65535 < t ∨ 65535 < s.size) : Calls Try.prog 98 #[.int .i64 t, .string s] w fun e w' => e = .returned (.bool (mayD t s)) ∧ Below w.heap.size w w' := by
  have e1 : mayD t s = false := by
    unfold mayD
    by_cases h1 : t < 1
    · rw [if_pos h1]
    · rw [if_neg h1]
      by_cases h2 : 65535 < t
      · rw [if_pos h2]
      · rw [if_neg h2, if_pos (by omega)]
  by_cases h1 : t < 1
  · have q1 : decide (t < 1) = true := decide_eq_true h1
    clear h
    go_enter Try.func98, Try.ntmps98
    go_wp2
    go_ret
    exact ⟨by first | rfl | (rw [e1]; rfl), Below.refl _ _⟩
  · have q1 : decide (t < 1) = false := decide_eq_false h1
    by_cases h2 : 65535 < t
    · have q2 : decide (65535 < t) = true := decide_eq_true h2
      clear h
      go_enter Try.func98, Try.ntmps98
      go_wp2
      go_ret
      exact ⟨by first | rfl | (rw [e1]; rfl), Below.refl _ _⟩
    · have q2 : decide (65535 < t) = false := decide_eq_false h2
      have q3 : decide ((65535 : Int) < s.size) = true := by simp; omega
      clear h
      go_enter Try.func98, Try.ntmps98
      go_wp2
      go_ret
      exact ⟨by first | rfl | (rw [e1]; rfl), Below.refl _ _⟩

set_option maxRecDepth 100000 in
set_option maxHeartbeats 1000000 in
theorem rdmay1 (s : ByteArray) (w : World) (hs : s.size ≤ 9223372036854775000) (h3 : ¬ 65535 < s.size) : Calls Try.prog 98 #[.int .i64 1, .string s] w fun e w' => e = .returned (.bool (mayD 1 s)) ∧ Below w.heap.size w w' := by
  have q3 : decide ((65535 : Int) < s.size) = false := by simp; omega
  have hm : mayD 1 s = _ := mayD_body (t := 1) (by decide) (by decide) h3
  have e1 : mayD 1 s = ((s.size : Int) == 4) := by rw [hm, Bool.eq_iff_iff]; simp; omega
  have E := Lib.hid e1
  clear hm e1
  go_enter Try.func98, Try.ntmps98
  go_wp2
  go_ret
  exact ⟨by rw [E.out]; rfl, Below.refl _ _⟩

set_option maxRecDepth 100000 in
set_option maxHeartbeats 1000000 in
theorem rdmay28 (s : ByteArray) (w : World) (hs : s.size ≤ 9223372036854775000) (h3 : ¬ 65535 < s.size) : Calls Try.prog 98 #[.int .i64 28, .string s] w fun e w' => e = .returned (.bool (mayD 28 s)) ∧ Below w.heap.size w w' := by
  have q3 : decide ((65535 : Int) < s.size) = false := by simp; omega
  have hm : mayD 28 s = _ := mayD_body (t := 28) (by decide) (by decide) h3
  have e1 : mayD 28 s = ((s.size : Int) == 16) := by rw [hm, Bool.eq_iff_iff]; simp; omega
  have E := Lib.hid e1
  clear hm e1
  go_enter Try.func98, Try.ntmps98
  go_wp2
  go_ret
  exact ⟨by rw [E.out]; rfl, Below.refl _ _⟩

set_option maxRecDepth 100000 in
set_option maxHeartbeats 1000000 in
theorem rdmay2 (s : ByteArray) (w : World) (hs : s.size ≤ 9223372036854775000) (h3 : ¬ 65535 < s.size) : Calls Try.prog 98 #[.int .i64 2, .string s] w fun e w' => e = .returned (.bool (mayD 2 s)) ∧ Below w.heap.size w w' := by
  have q3 : decide ((65535 : Int) < s.size) = false := by simp; omega
  have hm : mayD 2 s = _ := mayD_body (t := 2) (by decide) (by decide) h3
  have e1 : mayD 2 s = nameB s := by rw [hm]; simp
  have E := Lib.hid e1
  clear hm e1
  go_enter Try.func98, Try.ntmps98
  go_wp2_with fail
  refine (rmay s _).mono ?_
  rintro e w1 ⟨rfl, hb1⟩
  go_wp2
  go_ret
  exact ⟨by rw [E.out]; rfl, hb1⟩

set_option maxRecDepth 100000 in
set_option maxHeartbeats 1000000 in
theorem rdmay5 (s : ByteArray) (w : World) (hs : s.size ≤ 9223372036854775000) (h3 : ¬ 65535 < s.size) : Calls Try.prog 98 #[.int .i64 5, .string s] w fun e w' => e = .returned (.bool (mayD 5 s)) ∧ Below w.heap.size w w' := by
  have q3 : decide ((65535 : Int) < s.size) = false := by simp; omega
  have hm : mayD 5 s = _ := mayD_body (t := 5) (by decide) (by decide) h3
  have e1 : mayD 5 s = nameB s := by rw [hm]; simp
  have E := Lib.hid e1
  clear hm e1
  go_enter Try.func98, Try.ntmps98
  go_wp2_with fail
  refine (rmay s _).mono ?_
  rintro e w1 ⟨rfl, hb1⟩
  go_wp2
  go_ret
  exact ⟨by rw [E.out]; rfl, hb1⟩

set_option maxRecDepth 100000 in
set_option maxHeartbeats 1000000 in
theorem rdmay12 (s : ByteArray) (w : World) (hs : s.size ≤ 9223372036854775000) (h3 : ¬ 65535 < s.size) : Calls Try.prog 98 #[.int .i64 12, .string s] w fun e w' => e = .returned (.bool (mayD 12 s)) ∧ Below w.heap.size w w' := by
  have q3 : decide ((65535 : Int) < s.size) = false := by simp; omega
  have hm : mayD 12 s = _ := mayD_body (t := 12) (by decide) (by decide) h3
  have e1 : mayD 12 s = nameB s := by rw [hm]; simp
  have E := Lib.hid e1
  clear hm e1
  go_enter Try.func98, Try.ntmps98
  go_wp2_with fail
  refine (rmay s _).mono ?_
  rintro e w1 ⟨rfl, hb1⟩
  go_wp2
  go_ret
  exact ⟨by rw [E.out]; rfl, hb1⟩

set_option maxRecDepth 100000 in
set_option maxHeartbeats 1000000 in
theorem rdmay15 (s : ByteArray) (w : World) (hs : s.size ≤ 9223372036854775000) (h3 : ¬ 65535 < s.size) : Calls Try.prog 98 #[.int .i64 15, .string s] w fun e w' => e = .returned (.bool (mayD 15 s)) ∧ Below w.heap.size w w' := by
  have q3 : decide ((65535 : Int) < s.size) = false := by simp; omega
  have hm : mayD 15 s = _ := mayD_body (t := 15) (by decide) (by decide) h3
  by_cases h2 : 2 < s.size
  · have q4 : decide (2 < s.size) = true := decide_eq_true h2
    have e1 : mayD 15 s = nameB (s.extract 2 s.size) := by rw [hm]; simp; omega
    have E := Lib.hid e1
    have hsl := slice_a s 2 (by omega) w
    clear hm e1
    go_enter Try.func98, Try.ntmps98
    go_wp2_with fail
    refine (rmay _ _).mono ?_
    rintro e w1 ⟨rfl, hb1⟩
    go_wp2
    go_ret
    exact ⟨by rw [E.out]; rfl, hb1⟩
  · have q4 : decide (2 < s.size) = false := decide_eq_false h2
    have e0 : nameB (s.extract 2 s.size) = false := nameB_small (by rw [ByteArray.size_extract]; omega)
    have e1 : mayD 15 s = false := by rw [hm, e0]; simp
    have E := Lib.hid e1
    clear hm e1 e0
    go_enter Try.func98, Try.ntmps98
    go_wp2
    go_ret
    exact ⟨by rw [E.out]; rfl, Below.refl _ _⟩

set_option maxRecDepth 100000 in
set_option maxHeartbeats 1000000 in
theorem rdmay6 (s : ByteArray) (w : World) (hs : s.size ≤ 9223372036854775000) (h3 : ¬ 65535 < s.size) : Calls Try.prog 98 #[.int .i64 6, .string s] w fun e w' => e = .returned (.bool (mayD 6 s)) ∧ Below w.heap.size w w' := by
  have q3 : decide ((65535 : Int) < s.size) = false := by simp; omega
  have hm : mayD 6 s = _ := mayD_body (t := 6) (by decide) (by decide) h3
  have e0 : mayD 6 s = soaB s := by rw [hm]; simp
  have hB := @endN_bd s 0
  have hN := @endN_neg s 0
  clear hm
  by_cases h : endN s 0 < 0
  · have e1 : mayD 6 s = false := by rw [e0]; unfold soaB; simp; omega
    have q : endN s 0 = -1 := hN h
    have E := Lib.hid e1
    clear e1 e0 h hB hN
    go_enter Try.func98, Try.ntmps98
    go_wp2_with fail
    refine (whole s 0 _ hs (by omega)).mono ?_
    rintro e w1 ⟨rfl, hb1⟩
    rw [q]
    go_wp2
    go_ret
    exact ⟨by rw [E.out]; rfl, hb1⟩
  · obtain ⟨n, hn⟩ : ∃ n : Nat, endN s 0 = n := ⟨(endN s 0).toNat, by omega⟩
    have hnb := hB (by omega)
    rw [hn] at hnb
    have hle : n ≤ s.size := by omega
    have hB2 := @endN_bd s n
    have hN2 := @endN_neg s n
    have e1 : mayD 6 s = (decide (0 ≤ endN s n) && decide ((s.size : Int) = endN s n + 20)) := by rw [e0]; unfold soaB; rw [hn]; simp
    by_cases h2 : endN s n < 0
    · have e2 : mayD 6 s = false := by rw [e1]; simp; omega
      have q : endN s n = -1 := hN2 h2
      have E := Lib.hid e2
      clear e1 e0 e2 h hB hN hB2 hN2 h2 hnb
      go_enter Try.func98, Try.ntmps98
      go_wp2_with fail
      refine (whole s 0 _ hs (by omega)).mono ?_
      rintro e w1 ⟨rfl, hb1⟩
      rw [hn]
      go_wp2_with fail
      refine (whole s n _ hs hle).mono ?_
      rintro e w2 ⟨rfl, hb2⟩
      rw [q]
      go_wp2
      go_ret
      exact ⟨by rw [E.out]; rfl, below_next hb1 hb2⟩
    · obtain ⟨k, hk⟩ : ∃ k : Nat, endN s n = k := ⟨(endN s n).toNat, by omega⟩
      have hkb := hB2 (by omega)
      rw [hk] at hkb
      have hkl : k ≤ s.size := by omega
      have wk : wrap64 ((k : Int) + 20) = (k : Int) + 20 := w64 (by omega) (by omega)
      have e2 : mayD 6 s = ((s.size : Int) == (k : Int) + 20) := by rw [e1, hk, Bool.eq_iff_iff]; simp
      have E := Lib.hid e2
      clear e1 e0 e2 h hB hN hB2 hN2 h2 hnb hkb
      go_enter Try.func98, Try.ntmps98
      go_wp2_with fail
      refine (whole s 0 _ hs (by omega)).mono ?_
      rintro e w1 ⟨rfl, hb1⟩
      rw [hn]
      go_wp2_with fail
      refine (whole s n _ hs hle).mono ?_
      rintro e w2 ⟨rfl, hb2⟩
      rw [hk]
      go_wp2
      go_ret
      exact ⟨by rw [E.out]; rfl, below_next hb1 hb2⟩

set_option maxRecDepth 100000 in
set_option maxHeartbeats 1000000 in
theorem rdmay16 (s : ByteArray) (w : World) (hs : s.size ≤ 9223372036854775000) (h3 : ¬ 65535 < s.size) : Calls Try.prog 98 #[.int .i64 16, .string s] w fun e w' => e = .returned (.bool (mayD 16 s)) ∧ Below w.heap.size w w' := by
  have q3 : decide ((65535 : Int) < s.size) = false := by simp; omega
  have hm : mayD 16 s = _ := mayD_body (t := 16) (by decide) (by decide) h3
  have e1 : mayD 16 s = textsB s := by rw [hm]; simp
  have E := Lib.hid e1
  clear hm e1
  go_enter Try.func98, Try.ntmps98
  go_wp2_with fail
  refine (rtexts s _ hs).mono ?_
  rintro e w1 ⟨rfl, rfl⟩
  go_wp2
  go_ret
  exact ⟨by rw [E.out]; rfl, Below.refl _ _⟩

set_option maxRecDepth 100000 in
set_option maxHeartbeats 1000000 in
theorem rdmayRest (t : Int) (s : ByteArray) (w : World) (hs : s.size ≤ 9223372036854775000) (h1 : ¬ t < 1) (h2 : ¬ 65535 < t) (h3 : ¬ 65535 < s.size) (k1 : ¬ t = 1) (k28 : ¬ t = 28) (k2 : ¬ t = 2) (k5 : ¬ t = 5) (k12 : ¬ t = 12) (k15 : ¬ t = 15) (k6 : ¬ t = 6) (k16 : ¬ t = 16) : Calls Try.prog 98 #[.int .i64 t, .string s] w fun e w' => e = .returned (.bool (mayD t s)) ∧ Below w.heap.size w w' := by
  have e1 : mayD t s = true := by rw [mayD_body h1 h2 h3]; simp [k1, k28, k2, k5, k12, k15, k6, k16]
  have p1 : decide (t < 1) = false := decide_eq_false h1
  have p2 : decide (65535 < t) = false := decide_eq_false h2
  have p3 : decide ((65535 : Int) < s.size) = false := by simp; omega
  have q1 : (t == 1) = false := by simp [k1]
  have q28 : (t == 28) = false := by simp [k28]
  have q2 : (t == 2) = false := by simp [k2]
  have q5 : (t == 5) = false := by simp [k5]
  have q12 : (t == 12) = false := by simp [k12]
  have q15 : (t == 15) = false := by simp [k15]
  have q6 : (t == 6) = false := by simp [k6]
  have q16 : (t == 16) = false := by simp [k16]
  clear h1 h2 h3 k1 k28 k2 k5 k12 k15 k6 k16
  go_enter Try.func98, Try.ntmps98
  go_wp2
  go_ret
  exact ⟨by first | rfl | (rw [e1]; rfl), Below.refl _ _⟩

theorem rdmay (t : Int) (s : ByteArray) (w : World) (hs : s.size ≤ 9223372036854775000) : Calls Try.prog 98 #[.int .i64 t, .string s] w fun e w' => e = .returned (.bool (mayD t s)) ∧ Below w.heap.size w w' := by
  by_cases h1 : t < 1
  · exact rdmayOut t s w hs (.inl h1)
  by_cases h2 : 65535 < t
  · exact rdmayOut t s w hs (.inr (.inl h2))
  by_cases h3 : 65535 < s.size
  · exact rdmayOut t s w hs (.inr (.inr h3))
  by_cases k1 : t = 1
  · subst k1; exact rdmay1 s w hs h3
  by_cases k28 : t = 28
  · subst k28; exact rdmay28 s w hs h3
  by_cases k2 : t = 2
  · subst k2; exact rdmay2 s w hs h3
  by_cases k5 : t = 5
  · subst k5; exact rdmay5 s w hs h3
  by_cases k12 : t = 12
  · subst k12; exact rdmay12 s w hs h3
  by_cases k15 : t = 15
  · subst k15; exact rdmay15 s w hs h3
  by_cases k6 : t = 6
  · subst k6; exact rdmay6 s w hs h3
  by_cases k16 : t = 16
  · subst k16; exact rdmay16 s w hs h3
  exact rdmayRest t s w hs h1 h2 h3 k1 k28 k2 k5 k12 k15 k6 k16
end Go.Proofs.Ytjklgdpffmaamaa.Rd

namespace Go.Proofs.Ytjklgdpffmaamaa.Hd
open Go.RowKit Go.PlainAid Go.Proofs.Ytjklgdpffmaamaa.Base Go.Proofs.Ytjklgdpffmaamaa.Oct
set_option linter.unusedVariables false

structure Head where
  id : Int
  qr : Bool
  op : Int
  aa : Bool
  tc : Bool
  rd : Bool
  ra : Bool
  z : Int
  rc : Int
deriving DecidableEq

def Head.val (h : Head) : Value := .agg #[.int .i64 h.id, .bool h.qr, .int .i64 h.op, .bool h.aa, .bool h.tc, .bool h.rd, .bool h.ra, .int .i64 h.z, .int .i64 h.rc]
def arr4 (a b c d : Int) : Value := .agg #[.int .i64 a, .int .i64 b, .int .i64 c, .int .i64 d]
def sh (x : Int) : Prop := 0 ≤ x ∧ x ≤ 65535
instance (x : Int) : Decidable (sh x) := inferInstanceAs (Decidable (_ ∧ _))
def Head.ok (h : Head) : Prop := sh h.id ∧ (0 ≤ h.op ∧ h.op ≤ 15) ∧ (0 ≤ h.rc ∧ h.rc ≤ 15) ∧ (0 ≤ h.z ∧ h.z ≤ 7)
instance (h : Head) : Decidable h.ok := inferInstanceAs (Decidable (_ ∧ _))

/-- The header lies at an address, cell by cell. -/
structure At (w : World) (g o : Nat) (h : Head) : Prop where
  c0 : w.cell? ⟨g, o, none⟩ = some (.int .i64 h.id)
  c1 : w.cell? ⟨g, o + 1, none⟩ = some (.bool h.qr)
  c2 : w.cell? ⟨g, o + 2, none⟩ = some (.int .i64 h.op)
  c3 : w.cell? ⟨g, o + 3, none⟩ = some (.bool h.aa)
  c4 : w.cell? ⟨g, o + 4, none⟩ = some (.bool h.tc)
  c5 : w.cell? ⟨g, o + 5, none⟩ = some (.bool h.rd)
  c6 : w.cell? ⟨g, o + 6, none⟩ = some (.bool h.ra)
  c7 : w.cell? ⟨g, o + 7, none⟩ = some (.int .i64 h.z)
  c8 : w.cell? ⟨g, o + 8, none⟩ = some (.int .i64 h.rc)

theorem ix0 (a b c d : Int) : ∀ w, (Instr.index 80 (.agg #[.int .i64 a, .int .i64 b, .int .i64 c, .int .i64 d]) (.int .i64 0)).run Try.prog w = .ok (.int .i64 a) w := fun _ => by kernel_rfl
theorem ix1 (a b c d : Int) : ∀ w, (Instr.index 80 (.agg #[.int .i64 a, .int .i64 b, .int .i64 c, .int .i64 d]) (.int .i64 1)).run Try.prog w = .ok (.int .i64 b) w := fun _ => by kernel_rfl
theorem ix2 (a b c d : Int) : ∀ w, (Instr.index 80 (.agg #[.int .i64 a, .int .i64 b, .int .i64 c, .int .i64 d]) (.int .i64 2)).run Try.prog w = .ok (.int .i64 c) w := fun _ => by kernel_rfl
theorem ix3 (a b c d : Int) : ∀ w, (Instr.index 80 (.agg #[.int .i64 a, .int .i64 b, .int .i64 c, .int .i64 d]) (.int .i64 3)).run Try.prog w = .ok (.int .i64 d) w := fun _ => by kernel_rfl

set_option maxHeartbeats 400000 in
theorem bit15 (b : Bool) (w : World) : Calls Try.prog 87 #[.bool b, .int .i64 15] w fun e w' => e = .returned (.int .i64 (bif b then 32768 else 0)) ∧ w = w' := by
  cases b <;> (go_enter Try.func87, Try.ntmps87; go_wp2; go_ret; exact ⟨rfl, rfl⟩)
set_option maxHeartbeats 400000 in
theorem bit10 (b : Bool) (w : World) : Calls Try.prog 87 #[.bool b, .int .i64 10] w fun e w' => e = .returned (.int .i64 (bif b then 1024 else 0)) ∧ w = w' := by
  cases b <;> (go_enter Try.func87, Try.ntmps87; go_wp2; go_ret; exact ⟨rfl, rfl⟩)
set_option maxHeartbeats 400000 in
theorem bit9 (b : Bool) (w : World) : Calls Try.prog 87 #[.bool b, .int .i64 9] w fun e w' => e = .returned (.int .i64 (bif b then 512 else 0)) ∧ w = w' := by
  cases b <;> (go_enter Try.func87, Try.ntmps87; go_wp2; go_ret; exact ⟨rfl, rfl⟩)
set_option maxHeartbeats 400000 in
theorem bit8 (b : Bool) (w : World) : Calls Try.prog 87 #[.bool b, .int .i64 8] w fun e w' => e = .returned (.int .i64 (bif b then 256 else 0)) ∧ w = w' := by
  cases b <;> (go_enter Try.func87, Try.ntmps87; go_wp2; go_ret; exact ⟨rfl, rfl⟩)
set_option maxHeartbeats 400000 in
theorem bit7 (b : Bool) (w : World) : Calls Try.prog 87 #[.bool b, .int .i64 7] w fun e w' => e = .returned (.int .i64 (bif b then 128 else 0)) ∧ w = w' := by
  cases b <;> (go_enter Try.func87, Try.ntmps87; go_wp2; go_ret; exact ⟨rfl, rfl⟩)
set_option maxHeartbeats 1000000 in
theorem may_lo0 (h : Head) (a b c d : Int) (g o : Nat) (w : World) (hat : At w g o h)  (hx : a < 0) :
    Calls Try.prog 86 #[.pointer (some ⟨g, o, none⟩), arr4 a b c d] w fun e w' => e = .returned (.bool false) ∧ Below w.heap.size w w' := by
  obtain ⟨c0, c1, c2, c3, c4, c5, c6, c7, c8⟩ := hat
  have hlt : g < w.heap.size := World.block_lt_of_cell? w _ c0
  unfold arr4
  have i0 := ix0 a b c d
  have i1 := ix1 a b c d
  have i2 := ix2 a b c d
  have i3 := ix3 a b c d
  have q0 : decide (a < 0) = true := by simp; omega
  go_enter Try.func86, Try.ntmps86
  go_wp2
  refine wp_loop_rounds 1 ?_
  repeat (rw [rounds_succ]; go_wp2)
  go_ret
  exact ⟨rfl, below_alloc (Below.refl _ _) _⟩
set_option maxHeartbeats 1000000 in
theorem may_hi0 (h : Head) (a b c d : Int) (g o : Nat) (w : World) (hat : At w g o h)  (hx : 65535 < a) :
    Calls Try.prog 86 #[.pointer (some ⟨g, o, none⟩), arr4 a b c d] w fun e w' => e = .returned (.bool false) ∧ Below w.heap.size w w' := by
  obtain ⟨c0, c1, c2, c3, c4, c5, c6, c7, c8⟩ := hat
  have hlt : g < w.heap.size := World.block_lt_of_cell? w _ c0
  unfold arr4
  have i0 := ix0 a b c d
  have i1 := ix1 a b c d
  have i2 := ix2 a b c d
  have i3 := ix3 a b c d
  have q0 : decide (a < 0) = false := by simp; omega
  have q1 : decide ((65535 : Int) < a) = true := by simp; omega
  go_enter Try.func86, Try.ntmps86
  go_wp2
  refine wp_loop_rounds 1 ?_
  repeat (rw [rounds_succ]; go_wp2)
  go_ret
  exact ⟨rfl, below_alloc (Below.refl _ _) _⟩
set_option maxHeartbeats 1000000 in
theorem may_lo1 (h : Head) (a b c d : Int) (g o : Nat) (w : World) (hat : At w g o h) (h0 : sh a) (hx : b < 0) :
    Calls Try.prog 86 #[.pointer (some ⟨g, o, none⟩), arr4 a b c d] w fun e w' => e = .returned (.bool false) ∧ Below w.heap.size w w' := by
  obtain ⟨c0, c1, c2, c3, c4, c5, c6, c7, c8⟩ := hat
  have hlt : g < w.heap.size := World.block_lt_of_cell? w _ c0
  unfold arr4
  have i0 := ix0 a b c d
  have i1 := ix1 a b c d
  have i2 := ix2 a b c d
  have i3 := ix3 a b c d
  unfold sh at h0
  have q0 : decide (a < 0) = false := by simp; omega
  have q1 : decide ((65535 : Int) < a) = false := by simp; omega
  have q2 : decide (b < 0) = true := by simp; omega
  go_enter Try.func86, Try.ntmps86
  go_wp2
  refine wp_loop_rounds 2 ?_
  repeat (rw [rounds_succ]; go_wp2)
  go_ret
  exact ⟨rfl, below_alloc (Below.refl _ _) _⟩
set_option maxHeartbeats 1000000 in
theorem may_hi1 (h : Head) (a b c d : Int) (g o : Nat) (w : World) (hat : At w g o h) (h0 : sh a) (hx : 65535 < b) :
    Calls Try.prog 86 #[.pointer (some ⟨g, o, none⟩), arr4 a b c d] w fun e w' => e = .returned (.bool false) ∧ Below w.heap.size w w' := by
  obtain ⟨c0, c1, c2, c3, c4, c5, c6, c7, c8⟩ := hat
  have hlt : g < w.heap.size := World.block_lt_of_cell? w _ c0
  unfold arr4
  have i0 := ix0 a b c d
  have i1 := ix1 a b c d
  have i2 := ix2 a b c d
  have i3 := ix3 a b c d
  unfold sh at h0
  have q0 : decide (a < 0) = false := by simp; omega
  have q1 : decide ((65535 : Int) < a) = false := by simp; omega
  have q2 : decide (b < 0) = false := by simp; omega
  have q3 : decide ((65535 : Int) < b) = true := by simp; omega
  go_enter Try.func86, Try.ntmps86
  go_wp2
  refine wp_loop_rounds 2 ?_
  repeat (rw [rounds_succ]; go_wp2)
  go_ret
  exact ⟨rfl, below_alloc (Below.refl _ _) _⟩
set_option maxHeartbeats 1000000 in
theorem may_lo2 (h : Head) (a b c d : Int) (g o : Nat) (w : World) (hat : At w g o h) (h0 : sh a) (h1 : sh b) (hx : c < 0) :
    Calls Try.prog 86 #[.pointer (some ⟨g, o, none⟩), arr4 a b c d] w fun e w' => e = .returned (.bool false) ∧ Below w.heap.size w w' := by
  obtain ⟨c0, c1, c2, c3, c4, c5, c6, c7, c8⟩ := hat
  have hlt : g < w.heap.size := World.block_lt_of_cell? w _ c0
  unfold arr4
  have i0 := ix0 a b c d
  have i1 := ix1 a b c d
  have i2 := ix2 a b c d
  have i3 := ix3 a b c d
  unfold sh at h0
  unfold sh at h1
  have q0 : decide (a < 0) = false := by simp; omega
  have q1 : decide ((65535 : Int) < a) = false := by simp; omega
  have q2 : decide (b < 0) = false := by simp; omega
  have q3 : decide ((65535 : Int) < b) = false := by simp; omega
  have q4 : decide (c < 0) = true := by simp; omega
  go_enter Try.func86, Try.ntmps86
  go_wp2
  refine wp_loop_rounds 3 ?_
  repeat (rw [rounds_succ]; go_wp2)
  go_ret
  exact ⟨rfl, below_alloc (Below.refl _ _) _⟩
set_option maxHeartbeats 1000000 in
theorem may_hi2 (h : Head) (a b c d : Int) (g o : Nat) (w : World) (hat : At w g o h) (h0 : sh a) (h1 : sh b) (hx : 65535 < c) :
    Calls Try.prog 86 #[.pointer (some ⟨g, o, none⟩), arr4 a b c d] w fun e w' => e = .returned (.bool false) ∧ Below w.heap.size w w' := by
  obtain ⟨c0, c1, c2, c3, c4, c5, c6, c7, c8⟩ := hat
  have hlt : g < w.heap.size := World.block_lt_of_cell? w _ c0
  unfold arr4
  have i0 := ix0 a b c d
  have i1 := ix1 a b c d
  have i2 := ix2 a b c d
  have i3 := ix3 a b c d
  unfold sh at h0
  unfold sh at h1
  have q0 : decide (a < 0) = false := by simp; omega
  have q1 : decide ((65535 : Int) < a) = false := by simp; omega
  have q2 : decide (b < 0) = false := by simp; omega
  have q3 : decide ((65535 : Int) < b) = false := by simp; omega
  have q4 : decide (c < 0) = false := by simp; omega
  have q5 : decide ((65535 : Int) < c) = true := by simp; omega
  go_enter Try.func86, Try.ntmps86
  go_wp2
  refine wp_loop_rounds 3 ?_
  repeat (rw [rounds_succ]; go_wp2)
  go_ret
  exact ⟨rfl, below_alloc (Below.refl _ _) _⟩
set_option maxHeartbeats 1000000 in
theorem may_lo3 (h : Head) (a b c d : Int) (g o : Nat) (w : World) (hat : At w g o h) (h0 : sh a) (h1 : sh b) (h2 : sh c) (hx : d < 0) :
    Calls Try.prog 86 #[.pointer (some ⟨g, o, none⟩), arr4 a b c d] w fun e w' => e = .returned (.bool false) ∧ Below w.heap.size w w' := by
  obtain ⟨c0, c1, c2, c3, c4, c5, c6, c7, c8⟩ := hat
  have hlt : g < w.heap.size := World.block_lt_of_cell? w _ c0
  unfold arr4
  have i0 := ix0 a b c d
  have i1 := ix1 a b c d
  have i2 := ix2 a b c d
  have i3 := ix3 a b c d
  unfold sh at h0
  unfold sh at h1
  unfold sh at h2
  have q0 : decide (a < 0) = false := by simp; omega
  have q1 : decide ((65535 : Int) < a) = false := by simp; omega
  have q2 : decide (b < 0) = false := by simp; omega
  have q3 : decide ((65535 : Int) < b) = false := by simp; omega
  have q4 : decide (c < 0) = false := by simp; omega
  have q5 : decide ((65535 : Int) < c) = false := by simp; omega
  have q6 : decide (d < 0) = true := by simp; omega
  go_enter Try.func86, Try.ntmps86
  go_wp2
  refine wp_loop_rounds 4 ?_
  repeat (rw [rounds_succ]; go_wp2)
  go_ret
  exact ⟨rfl, below_alloc (Below.refl _ _) _⟩
set_option maxHeartbeats 1000000 in
theorem may_hi3 (h : Head) (a b c d : Int) (g o : Nat) (w : World) (hat : At w g o h) (h0 : sh a) (h1 : sh b) (h2 : sh c) (hx : 65535 < d) :
    Calls Try.prog 86 #[.pointer (some ⟨g, o, none⟩), arr4 a b c d] w fun e w' => e = .returned (.bool false) ∧ Below w.heap.size w w' := by
  obtain ⟨c0, c1, c2, c3, c4, c5, c6, c7, c8⟩ := hat
  have hlt : g < w.heap.size := World.block_lt_of_cell? w _ c0
  unfold arr4
  have i0 := ix0 a b c d
  have i1 := ix1 a b c d
  have i2 := ix2 a b c d
  have i3 := ix3 a b c d
  unfold sh at h0
  unfold sh at h1
  unfold sh at h2
  have q0 : decide (a < 0) = false := by simp; omega
  have q1 : decide ((65535 : Int) < a) = false := by simp; omega
  have q2 : decide (b < 0) = false := by simp; omega
  have q3 : decide ((65535 : Int) < b) = false := by simp; omega
  have q4 : decide (c < 0) = false := by simp; omega
  have q5 : decide ((65535 : Int) < c) = false := by simp; omega
  have q6 : decide (d < 0) = false := by simp; omega
  have q7 : decide ((65535 : Int) < d) = true := by simp; omega
  go_enter Try.func86, Try.ntmps86
  go_wp2
  refine wp_loop_rounds 4 ?_
  repeat (rw [rounds_succ]; go_wp2)
  go_ret
  exact ⟨rfl, below_alloc (Below.refl _ _) _⟩
set_option maxHeartbeats 1000000 in
theorem may_t0 (h : Head) (a b c d : Int) (g o : Nat) (w : World) (hat : At w g o h) (h0 : sh a) (h1 : sh b) (h2 : sh c) (h3 : sh d)  (hx : ¬ 0 ≤ h.id) :
    Calls Try.prog 86 #[.pointer (some ⟨g, o, none⟩), arr4 a b c d] w fun e w' => e = .returned (.bool false) ∧ Below w.heap.size w w' := by
  obtain ⟨c0, c1, c2, c3, c4, c5, c6, c7, c8⟩ := hat
  have hlt : g < w.heap.size := World.block_lt_of_cell? w _ c0
  unfold arr4
  have i0 := ix0 a b c d
  have i1 := ix1 a b c d
  have i2 := ix2 a b c d
  have i3 := ix3 a b c d
  unfold sh at h0 h1 h2 h3
  have q0 : decide (a < 0) = false := by simp; omega
  have q1 : decide ((65535 : Int) < a) = false := by simp; omega
  have q2 : decide (b < 0) = false := by simp; omega
  have q3 : decide ((65535 : Int) < b) = false := by simp; omega
  have q4 : decide (c < 0) = false := by simp; omega
  have q5 : decide ((65535 : Int) < c) = false := by simp; omega
  have q6 : decide (d < 0) = false := by simp; omega
  have q7 : decide ((65535 : Int) < d) = false := by simp; omega
  have q8 : decide (0 ≤ h.id) = false := by simp; omega
  go_enter Try.func86, Try.ntmps86
  go_wp2
  refine wp_loop_rounds 5 ?_
  repeat (rw [rounds_succ]; go_wp2)
  go_ret
  exact ⟨rfl, below_alloc (Below.refl _ _) _⟩
set_option maxHeartbeats 1000000 in
theorem may_t1 (h : Head) (a b c d : Int) (g o : Nat) (w : World) (hat : At w g o h) (h0 : sh a) (h1 : sh b) (h2 : sh c) (h3 : sh d) (x0 : 0 ≤ h.id) (hx : ¬ h.id ≤ 65535) :
    Calls Try.prog 86 #[.pointer (some ⟨g, o, none⟩), arr4 a b c d] w fun e w' => e = .returned (.bool false) ∧ Below w.heap.size w w' := by
  obtain ⟨c0, c1, c2, c3, c4, c5, c6, c7, c8⟩ := hat
  have hlt : g < w.heap.size := World.block_lt_of_cell? w _ c0
  unfold arr4
  have i0 := ix0 a b c d
  have i1 := ix1 a b c d
  have i2 := ix2 a b c d
  have i3 := ix3 a b c d
  unfold sh at h0 h1 h2 h3
  have q0 : decide (a < 0) = false := by simp; omega
  have q1 : decide ((65535 : Int) < a) = false := by simp; omega
  have q2 : decide (b < 0) = false := by simp; omega
  have q3 : decide ((65535 : Int) < b) = false := by simp; omega
  have q4 : decide (c < 0) = false := by simp; omega
  have q5 : decide ((65535 : Int) < c) = false := by simp; omega
  have q6 : decide (d < 0) = false := by simp; omega
  have q7 : decide ((65535 : Int) < d) = false := by simp; omega
  have q8 : decide (0 ≤ h.id) = true := by simp; omega
  have q9 : decide (h.id ≤ 65535) = false := by simp; omega
  go_enter Try.func86, Try.ntmps86
  go_wp2
  refine wp_loop_rounds 5 ?_
  repeat (rw [rounds_succ]; go_wp2)
  go_ret
  exact ⟨rfl, below_alloc (Below.refl _ _) _⟩
set_option maxHeartbeats 1000000 in
theorem may_t2 (h : Head) (a b c d : Int) (g o : Nat) (w : World) (hat : At w g o h) (h0 : sh a) (h1 : sh b) (h2 : sh c) (h3 : sh d) (x0 : 0 ≤ h.id) (x1 : h.id ≤ 65535) (hx : ¬ 0 ≤ h.op) :
    Calls Try.prog 86 #[.pointer (some ⟨g, o, none⟩), arr4 a b c d] w fun e w' => e = .returned (.bool false) ∧ Below w.heap.size w w' := by
  obtain ⟨c0, c1, c2, c3, c4, c5, c6, c7, c8⟩ := hat
  have hlt : g < w.heap.size := World.block_lt_of_cell? w _ c0
  unfold arr4
  have i0 := ix0 a b c d
  have i1 := ix1 a b c d
  have i2 := ix2 a b c d
  have i3 := ix3 a b c d
  unfold sh at h0 h1 h2 h3
  have q0 : decide (a < 0) = false := by simp; omega
  have q1 : decide ((65535 : Int) < a) = false := by simp; omega
  have q2 : decide (b < 0) = false := by simp; omega
  have q3 : decide ((65535 : Int) < b) = false := by simp; omega
  have q4 : decide (c < 0) = false := by simp; omega
  have q5 : decide ((65535 : Int) < c) = false := by simp; omega
  have q6 : decide (d < 0) = false := by simp; omega
  have q7 : decide ((65535 : Int) < d) = false := by simp; omega
  have q8 : decide (0 ≤ h.id) = true := by simp; omega
  have q9 : decide (h.id ≤ 65535) = true := by simp; omega
  have q10 : decide (0 ≤ h.op) = false := by simp; omega
  go_enter Try.func86, Try.ntmps86
  go_wp2
  refine wp_loop_rounds 5 ?_
  repeat (rw [rounds_succ]; go_wp2)
  go_ret
  exact ⟨rfl, below_alloc (Below.refl _ _) _⟩
set_option maxHeartbeats 1000000 in
theorem may_t3 (h : Head) (a b c d : Int) (g o : Nat) (w : World) (hat : At w g o h) (h0 : sh a) (h1 : sh b) (h2 : sh c) (h3 : sh d) (x0 : 0 ≤ h.id) (x1 : h.id ≤ 65535) (x2 : 0 ≤ h.op) (hx : ¬ h.op ≤ 15) :
    Calls Try.prog 86 #[.pointer (some ⟨g, o, none⟩), arr4 a b c d] w fun e w' => e = .returned (.bool false) ∧ Below w.heap.size w w' := by
  obtain ⟨c0, c1, c2, c3, c4, c5, c6, c7, c8⟩ := hat
  have hlt : g < w.heap.size := World.block_lt_of_cell? w _ c0
  unfold arr4
  have i0 := ix0 a b c d
  have i1 := ix1 a b c d
  have i2 := ix2 a b c d
  have i3 := ix3 a b c d
  unfold sh at h0 h1 h2 h3
  have q0 : decide (a < 0) = false := by simp; omega
  have q1 : decide ((65535 : Int) < a) = false := by simp; omega
  have q2 : decide (b < 0) = false := by simp; omega
  have q3 : decide ((65535 : Int) < b) = false := by simp; omega
  have q4 : decide (c < 0) = false := by simp; omega
  have q5 : decide ((65535 : Int) < c) = false := by simp; omega
  have q6 : decide (d < 0) = false := by simp; omega
  have q7 : decide ((65535 : Int) < d) = false := by simp; omega
  have q8 : decide (0 ≤ h.id) = true := by simp; omega
  have q9 : decide (h.id ≤ 65535) = true := by simp; omega
  have q10 : decide (0 ≤ h.op) = true := by simp; omega
  have q11 : decide (h.op ≤ 15) = false := by simp; omega
  go_enter Try.func86, Try.ntmps86
  go_wp2
  refine wp_loop_rounds 5 ?_
  repeat (rw [rounds_succ]; go_wp2)
  go_ret
  exact ⟨rfl, below_alloc (Below.refl _ _) _⟩
set_option maxHeartbeats 1000000 in
theorem may_t4 (h : Head) (a b c d : Int) (g o : Nat) (w : World) (hat : At w g o h) (h0 : sh a) (h1 : sh b) (h2 : sh c) (h3 : sh d) (x0 : 0 ≤ h.id) (x1 : h.id ≤ 65535) (x2 : 0 ≤ h.op) (x3 : h.op ≤ 15) (hx : ¬ 0 ≤ h.rc) :
    Calls Try.prog 86 #[.pointer (some ⟨g, o, none⟩), arr4 a b c d] w fun e w' => e = .returned (.bool false) ∧ Below w.heap.size w w' := by
  obtain ⟨c0, c1, c2, c3, c4, c5, c6, c7, c8⟩ := hat
  have hlt : g < w.heap.size := World.block_lt_of_cell? w _ c0
  unfold arr4
  have i0 := ix0 a b c d
  have i1 := ix1 a b c d
  have i2 := ix2 a b c d
  have i3 := ix3 a b c d
  unfold sh at h0 h1 h2 h3
  have q0 : decide (a < 0) = false := by simp; omega
  have q1 : decide ((65535 : Int) < a) = false := by simp; omega
  have q2 : decide (b < 0) = false := by simp; omega
  have q3 : decide ((65535 : Int) < b) = false := by simp; omega
  have q4 : decide (c < 0) = false := by simp; omega
  have q5 : decide ((65535 : Int) < c) = false := by simp; omega
  have q6 : decide (d < 0) = false := by simp; omega
  have q7 : decide ((65535 : Int) < d) = false := by simp; omega
  have q8 : decide (0 ≤ h.id) = true := by simp; omega
  have q9 : decide (h.id ≤ 65535) = true := by simp; omega
  have q10 : decide (0 ≤ h.op) = true := by simp; omega
  have q11 : decide (h.op ≤ 15) = true := by simp; omega
  have q12 : decide (0 ≤ h.rc) = false := by simp; omega
  go_enter Try.func86, Try.ntmps86
  go_wp2
  refine wp_loop_rounds 5 ?_
  repeat (rw [rounds_succ]; go_wp2)
  go_ret
  exact ⟨rfl, below_alloc (Below.refl _ _) _⟩
set_option maxHeartbeats 1000000 in
theorem may_t5 (h : Head) (a b c d : Int) (g o : Nat) (w : World) (hat : At w g o h) (h0 : sh a) (h1 : sh b) (h2 : sh c) (h3 : sh d) (x0 : 0 ≤ h.id) (x1 : h.id ≤ 65535) (x2 : 0 ≤ h.op) (x3 : h.op ≤ 15) (x4 : 0 ≤ h.rc) (hx : ¬ h.rc ≤ 15) :
    Calls Try.prog 86 #[.pointer (some ⟨g, o, none⟩), arr4 a b c d] w fun e w' => e = .returned (.bool false) ∧ Below w.heap.size w w' := by
  obtain ⟨c0, c1, c2, c3, c4, c5, c6, c7, c8⟩ := hat
  have hlt : g < w.heap.size := World.block_lt_of_cell? w _ c0
  unfold arr4
  have i0 := ix0 a b c d
  have i1 := ix1 a b c d
  have i2 := ix2 a b c d
  have i3 := ix3 a b c d
  unfold sh at h0 h1 h2 h3
  have q0 : decide (a < 0) = false := by simp; omega
  have q1 : decide ((65535 : Int) < a) = false := by simp; omega
  have q2 : decide (b < 0) = false := by simp; omega
  have q3 : decide ((65535 : Int) < b) = false := by simp; omega
  have q4 : decide (c < 0) = false := by simp; omega
  have q5 : decide ((65535 : Int) < c) = false := by simp; omega
  have q6 : decide (d < 0) = false := by simp; omega
  have q7 : decide ((65535 : Int) < d) = false := by simp; omega
  have q8 : decide (0 ≤ h.id) = true := by simp; omega
  have q9 : decide (h.id ≤ 65535) = true := by simp; omega
  have q10 : decide (0 ≤ h.op) = true := by simp; omega
  have q11 : decide (h.op ≤ 15) = true := by simp; omega
  have q12 : decide (0 ≤ h.rc) = true := by simp; omega
  have q13 : decide (h.rc ≤ 15) = false := by simp; omega
  go_enter Try.func86, Try.ntmps86
  go_wp2
  refine wp_loop_rounds 5 ?_
  repeat (rw [rounds_succ]; go_wp2)
  go_ret
  exact ⟨rfl, below_alloc (Below.refl _ _) _⟩
set_option maxHeartbeats 1000000 in
theorem may_t6 (h : Head) (a b c d : Int) (g o : Nat) (w : World) (hat : At w g o h) (h0 : sh a) (h1 : sh b) (h2 : sh c) (h3 : sh d) (x0 : 0 ≤ h.id) (x1 : h.id ≤ 65535) (x2 : 0 ≤ h.op) (x3 : h.op ≤ 15) (x4 : 0 ≤ h.rc) (x5 : h.rc ≤ 15) (hx : ¬ 0 ≤ h.z) :
    Calls Try.prog 86 #[.pointer (some ⟨g, o, none⟩), arr4 a b c d] w fun e w' => e = .returned (.bool false) ∧ Below w.heap.size w w' := by
  obtain ⟨c0, c1, c2, c3, c4, c5, c6, c7, c8⟩ := hat
  have hlt : g < w.heap.size := World.block_lt_of_cell? w _ c0
  unfold arr4
  have i0 := ix0 a b c d
  have i1 := ix1 a b c d
  have i2 := ix2 a b c d
  have i3 := ix3 a b c d
  unfold sh at h0 h1 h2 h3
  have q0 : decide (a < 0) = false := by simp; omega
  have q1 : decide ((65535 : Int) < a) = false := by simp; omega
  have q2 : decide (b < 0) = false := by simp; omega
  have q3 : decide ((65535 : Int) < b) = false := by simp; omega
  have q4 : decide (c < 0) = false := by simp; omega
  have q5 : decide ((65535 : Int) < c) = false := by simp; omega
  have q6 : decide (d < 0) = false := by simp; omega
  have q7 : decide ((65535 : Int) < d) = false := by simp; omega
  have q8 : decide (0 ≤ h.id) = true := by simp; omega
  have q9 : decide (h.id ≤ 65535) = true := by simp; omega
  have q10 : decide (0 ≤ h.op) = true := by simp; omega
  have q11 : decide (h.op ≤ 15) = true := by simp; omega
  have q12 : decide (0 ≤ h.rc) = true := by simp; omega
  have q13 : decide (h.rc ≤ 15) = true := by simp; omega
  have q14 : decide (0 ≤ h.z) = false := by simp; omega
  go_enter Try.func86, Try.ntmps86
  go_wp2
  refine wp_loop_rounds 5 ?_
  repeat (rw [rounds_succ]; go_wp2)
  go_ret
  exact ⟨rfl, below_alloc (Below.refl _ _) _⟩
set_option maxHeartbeats 1000000 in
theorem may_t7 (h : Head) (a b c d : Int) (g o : Nat) (w : World) (hat : At w g o h) (h0 : sh a) (h1 : sh b) (h2 : sh c) (h3 : sh d) (x0 : 0 ≤ h.id) (x1 : h.id ≤ 65535) (x2 : 0 ≤ h.op) (x3 : h.op ≤ 15) (x4 : 0 ≤ h.rc) (x5 : h.rc ≤ 15) (x6 : 0 ≤ h.z) (hx : ¬ h.z ≤ 7) :
    Calls Try.prog 86 #[.pointer (some ⟨g, o, none⟩), arr4 a b c d] w fun e w' => e = .returned (.bool false) ∧ Below w.heap.size w w' := by
  obtain ⟨c0, c1, c2, c3, c4, c5, c6, c7, c8⟩ := hat
  have hlt : g < w.heap.size := World.block_lt_of_cell? w _ c0
  unfold arr4
  have i0 := ix0 a b c d
  have i1 := ix1 a b c d
  have i2 := ix2 a b c d
  have i3 := ix3 a b c d
  unfold sh at h0 h1 h2 h3
  have q0 : decide (a < 0) = false := by simp; omega
  have q1 : decide ((65535 : Int) < a) = false := by simp; omega
  have q2 : decide (b < 0) = false := by simp; omega
  have q3 : decide ((65535 : Int) < b) = false := by simp; omega
  have q4 : decide (c < 0) = false := by simp; omega
  have q5 : decide ((65535 : Int) < c) = false := by simp; omega
  have q6 : decide (d < 0) = false := by simp; omega
  have q7 : decide ((65535 : Int) < d) = false := by simp; omega
  have q8 : decide (0 ≤ h.id) = true := by simp; omega
  have q9 : decide (h.id ≤ 65535) = true := by simp; omega
  have q10 : decide (0 ≤ h.op) = true := by simp; omega
  have q11 : decide (h.op ≤ 15) = true := by simp; omega
  have q12 : decide (0 ≤ h.rc) = true := by simp; omega
  have q13 : decide (h.rc ≤ 15) = true := by simp; omega
  have q14 : decide (0 ≤ h.z) = true := by simp; omega
  have q15 : decide (h.z ≤ 7) = false := by simp; omega
  go_enter Try.func86, Try.ntmps86
  go_wp2
  refine wp_loop_rounds 5 ?_
  repeat (rw [rounds_succ]; go_wp2)
  go_ret
  exact ⟨rfl, below_alloc (Below.refl _ _) _⟩
set_option maxHeartbeats 1000000 in
theorem may_t8 (h : Head) (a b c d : Int) (g o : Nat) (w : World) (hat : At w g o h) (h0 : sh a) (h1 : sh b) (h2 : sh c) (h3 : sh d) (x0 : 0 ≤ h.id) (x1 : h.id ≤ 65535) (x2 : 0 ≤ h.op) (x3 : h.op ≤ 15) (x4 : 0 ≤ h.rc) (x5 : h.rc ≤ 15) (x6 : 0 ≤ h.z) (x7 : h.z ≤ 7) :
    Calls Try.prog 86 #[.pointer (some ⟨g, o, none⟩), arr4 a b c d] w fun e w' => e = .returned (.bool true) ∧ Below w.heap.size w w' := by
  obtain ⟨c0, c1, c2, c3, c4, c5, c6, c7, c8⟩ := hat
  have hlt : g < w.heap.size := World.block_lt_of_cell? w _ c0
  unfold arr4
  have i0 := ix0 a b c d
  have i1 := ix1 a b c d
  have i2 := ix2 a b c d
  have i3 := ix3 a b c d
  unfold sh at h0 h1 h2 h3
  have q0 : decide (a < 0) = false := by simp; omega
  have q1 : decide ((65535 : Int) < a) = false := by simp; omega
  have q2 : decide (b < 0) = false := by simp; omega
  have q3 : decide ((65535 : Int) < b) = false := by simp; omega
  have q4 : decide (c < 0) = false := by simp; omega
  have q5 : decide ((65535 : Int) < c) = false := by simp; omega
  have q6 : decide (d < 0) = false := by simp; omega
  have q7 : decide ((65535 : Int) < d) = false := by simp; omega
  have q8 : decide (0 ≤ h.id) = true := by simp; omega
  have q9 : decide (h.id ≤ 65535) = true := by simp; omega
  have q10 : decide (0 ≤ h.op) = true := by simp; omega
  have q11 : decide (h.op ≤ 15) = true := by simp; omega
  have q12 : decide (0 ≤ h.rc) = true := by simp; omega
  have q13 : decide (h.rc ≤ 15) = true := by simp; omega
  have q14 : decide (0 ≤ h.z) = true := by simp; omega
  have q15 : decide (h.z ≤ 7) = true := by simp; omega
  go_enter Try.func86, Try.ntmps86
  go_wp2
  refine wp_loop_rounds 5 ?_
  repeat (rw [rounds_succ]; go_wp2)
  go_ret
  exact ⟨rfl, below_alloc (Below.refl _ _) _⟩

/-- May a header be, with its counts? -/
def mayB (h : Head) (a b c d : Int) : Bool := decide ((sh a ∧ sh b ∧ sh c ∧ sh d) ∧ h.ok)
theorem may_yes (h : Head) (a b c d : Int) (g o : Nat) (w : World) (hat : At w g o h) (hm : mayB h a b c d = true) :
    Calls Try.prog 86 #[.pointer (some ⟨g, o, none⟩), arr4 a b c d] w fun e w' => e = .returned (.bool true) ∧ Below w.heap.size w w' := by
  obtain ⟨⟨h0, h1, h2, h3⟩, ⟨k0, k1⟩, ⟨k2, k3⟩, ⟨k4, k5⟩, k6, k7⟩ := of_decide_eq_true hm
  exact may_t8 h a b c d g o w hat h0 h1 h2 h3 k0 k1 k2 k3 k4 k5 k6 k7
theorem may_no (h : Head) (a b c d : Int) (g o : Nat) (w : World) (hat : At w g o h) (hm : mayB h a b c d = false) :
    Calls Try.prog 86 #[.pointer (some ⟨g, o, none⟩), arr4 a b c d] w fun e w' => e = .returned (.bool false) ∧ Below w.heap.size w w' := by
  have hm' := of_decide_eq_false hm
  unfold Head.ok at hm'
  by_cases l0 : a < 0
  · exact may_lo0 h a b c d g o w hat  l0
  by_cases u0 : 65535 < a
  · exact may_hi0 h a b c d g o w hat  u0
  have h0 : sh a := ⟨by omega, by omega⟩
  by_cases l1 : b < 0
  · exact may_lo1 h a b c d g o w hat h0 l1
  by_cases u1 : 65535 < b
  · exact may_hi1 h a b c d g o w hat h0 u1
  have h1 : sh b := ⟨by omega, by omega⟩
  by_cases l2 : c < 0
  · exact may_lo2 h a b c d g o w hat h0 h1 l2
  by_cases u2 : 65535 < c
  · exact may_hi2 h a b c d g o w hat h0 h1 u2
  have h2 : sh c := ⟨by omega, by omega⟩
  by_cases l3 : d < 0
  · exact may_lo3 h a b c d g o w hat h0 h1 h2 l3
  by_cases u3 : 65535 < d
  · exact may_hi3 h a b c d g o w hat h0 h1 h2 u3
  have h3 : sh d := ⟨by omega, by omega⟩
  by_cases x0 : 0 ≤ h.id
  rotate_left
  · exact may_t0 h a b c d g o w hat h0 h1 h2 h3  x0
  by_cases x1 : h.id ≤ 65535
  rotate_left
  · exact may_t1 h a b c d g o w hat h0 h1 h2 h3 x0 x1
  by_cases x2 : 0 ≤ h.op
  rotate_left
  · exact may_t2 h a b c d g o w hat h0 h1 h2 h3 x0 x1 x2
  by_cases x3 : h.op ≤ 15
  rotate_left
  · exact may_t3 h a b c d g o w hat h0 h1 h2 h3 x0 x1 x2 x3
  by_cases x4 : 0 ≤ h.rc
  rotate_left
  · exact may_t4 h a b c d g o w hat h0 h1 h2 h3 x0 x1 x2 x3 x4
  by_cases x5 : h.rc ≤ 15
  rotate_left
  · exact may_t5 h a b c d g o w hat h0 h1 h2 h3 x0 x1 x2 x3 x4 x5
  by_cases x6 : 0 ≤ h.z
  rotate_left
  · exact may_t6 h a b c d g o w hat h0 h1 h2 h3 x0 x1 x2 x3 x4 x5 x6
  by_cases x7 : h.z ≤ 7
  rotate_left
  · exact may_t7 h a b c d g o w hat h0 h1 h2 h3 x0 x1 x2 x3 x4 x5 x6 x7
  exact absurd ⟨⟨h0, h1, h2, h3⟩, ⟨x0, x1⟩, ⟨x2, x3⟩, ⟨x4, x5⟩, x6, x7⟩ hm'
def bitW (b : Bool) (k : Int) : Int := bif b then 2 ^ k.toNat else 0
theorem bit_any (b : Bool) (k : Int) (w : World) (hk : k = 15 ∨ k = 10 ∨ k = 9 ∨ k = 8 ∨ k = 7) : Calls Try.prog 87 #[.bool b, .int .i64 k] w fun e w' => e = .returned (.int .i64 (bitW b k)) ∧ Below w.heap.size w w' := by
  rcases hk with rfl | rfl | rfl | rfl | rfl
  · exact (bit15 b w).mono fun _ _ h => ⟨h.1, h.2 ▸ Below.refl _ _⟩
  · exact (bit10 b w).mono fun _ _ h => ⟨h.1, h.2 ▸ Below.refl _ _⟩
  · exact (bit9 b w).mono fun _ _ h => ⟨h.1, h.2 ▸ Below.refl _ _⟩
  · exact (bit8 b w).mono fun _ _ h => ⟨h.1, h.2 ▸ Below.refl _ _⟩
  · exact (bit7 b w).mono fun _ _ h => ⟨h.1, h.2 ▸ Below.refl _ _⟩
end Go.Proofs.Ytjklgdpffmaamaa.Hd

namespace Go.Proofs.Ytjklgdpffmaamaa.Hd
open Go.RowKit Go.PlainAid Go.Proofs.Ytjklgdpffmaamaa.Base Go.Proofs.Ytjklgdpffmaamaa.Oct
set_option linter.unusedVariables false

/-! ### Put -/
def Head.flagsW (h : Head) : Int :=
  (Go.bits .or .i64 (Go.bits .or .i64 (Go.bits .or .i64 (Go.bits .or .i64 (Go.bits .or .i64 (Go.bits .or .i64 (Go.bits .or .i64 (bitW h.qr 15) (wrap64 (h.op * 2048))) (bitW h.aa 10)) (bitW h.tc 9)) (bitW h.rd 8)) (bitW h.ra 7)) (wrap64 (h.z * 16))) h.rc)
def Head.flagsN (h : Head) : Int :=
  (Go.bits .or .i64 (Go.bits .or .i64 (Go.bits .or .i64 (Go.bits .or .i64 (Go.bits .or .i64 (Go.bits .or .i64 (Go.bits .or .i64 (bitW h.qr 15) ((h.op * 2048))) (bitW h.aa 10)) (bitW h.tc 9)) (bitW h.rd 8)) (bitW h.ra 7)) ((h.z * 16))) h.rc)
theorem flags_eq (h : Head) (h0 : 0 ≤ h.op) (h1 : h.op ≤ 15) (h2 : 0 ≤ h.z) (h3 : h.z ≤ 7) : h.flagsW = h.flagsN := by
  unfold Head.flagsW Head.flagsN
  rw [w64 (by omega) (by omega), w64 (by omega) (by omega)]
def Head.putS (h : Head) (a b c d : Int) : ByteArray := p16 h.id ++ p16 h.flagsW ++ p16 a ++ p16 b ++ p16 c ++ p16 d
theorem same_below {P : Program} {f : FuncId} {args : Array Value} {w : World} {v : Value} (h : Calls P f args w fun e w' => e = .returned v ∧ w = w') : Calls P f args w fun e w' => e = .returned v ∧ Below w.heap.size w w' :=
  h.mono fun _ _ h => ⟨h.1, h.2 ▸ Below.refl _ _⟩
set_option maxHeartbeats 2000000 in
theorem put_yes (h : Head) (a b c d : Int) (w : World) (hm : mayB h a b c d = true) :
    Calls Try.prog 56 #[h.val, arr4 a b c d] w fun e w' => e = .returned (.tuple #[.string (h.putS a b c d), .int .i64 0]) ∧ Below w.heap.size w w' := by
  unfold Head.val arr4
  have z := p16_size
  go_enter Try.func56, Try.ntmps56
  go_wp2_with fail
  refine (may_yes h a b c d w.heap.size 0 _ ⟨by go_simp, by go_simp, by go_simp, by go_simp, by go_simp, by go_simp, by go_simp, by go_simp, by go_simp⟩ hm).mono ?_
  rintro e w1 ⟨rfl, hb1⟩
  have bz := hb1.size
  simp only [World.size_alloc] at bz
  have k0 : w1.cell? ⟨w.heap.size, 0, none⟩ = some (.int .i64 h.id) := bcell hb1 (by go_simp)
  have k1 : w1.cell? ⟨w.heap.size, 1, none⟩ = some (.bool h.qr) := bcell hb1 (by go_simp)
  have k2 : w1.cell? ⟨w.heap.size, 2, none⟩ = some (.int .i64 h.op) := bcell hb1 (by go_simp)
  have k3 : w1.cell? ⟨w.heap.size, 3, none⟩ = some (.bool h.aa) := bcell hb1 (by go_simp)
  have k4 : w1.cell? ⟨w.heap.size, 4, none⟩ = some (.bool h.tc) := bcell hb1 (by go_simp)
  have k5 : w1.cell? ⟨w.heap.size, 5, none⟩ = some (.bool h.rd) := bcell hb1 (by go_simp)
  have k6 : w1.cell? ⟨w.heap.size, 6, none⟩ = some (.bool h.ra) := bcell hb1 (by go_simp)
  have k7 : w1.cell? ⟨w.heap.size, 7, none⟩ = some (.int .i64 h.z) := bcell hb1 (by go_simp)
  have k8 : w1.cell? ⟨w.heap.size, 8, none⟩ = some (.int .i64 h.rc) := bcell hb1 (by go_simp)
  have m0 : w1.cell? ⟨w.heap.size + 1, 0, none⟩ = some (.int .i64 a) := bcell hb1 (by go_simp)
  have m1 : w1.cell? ⟨w.heap.size + 1, 1, none⟩ = some (.int .i64 b) := bcell hb1 (by go_simp)
  have m2 : w1.cell? ⟨w.heap.size + 1, 2, none⟩ = some (.int .i64 c) := bcell hb1 (by go_simp)
  have m3 : w1.cell? ⟨w.heap.size + 1, 3, none⟩ = some (.int .i64 d) := bcell hb1 (by go_simp)
  go_wp2
  have r0 := cell_regrown k0
  have r1 := cell_regrown k1
  have r2 := cell_regrown k2
  have r3 := cell_regrown k3
  have r4 := cell_regrown k4
  have r5 := cell_regrown k5
  have r6 := cell_regrown k6
  have r7 := cell_regrown k7
  have r8 := cell_regrown k8
  refine wp_region_quiet_below (by kernel_rfl) (by kernel_rfl) ?_
  repeat (go_big_quiet_step (exact Calls.regrown_of (bit_any _ _ _ (by decide))))
  refine wpQuiet_nil ?_
  intro _ hw'
  obtain ⟨⟨dq, osq⟩, hw''⟩ := hw'
  subst hw''
  have hb2 := below_regrown w1 dq osq
  generalize Go.Sort.grow (redrawn w1 dq) osq = w2 at hb2 ⊢
  have n0 := bcell hb2 k0
  have o0 := bcell hb2 m0
  have o1 := bcell hb2 m1
  have o2 := bcell hb2 m2
  have o3 := bcell hb2 m3
  clear r0 r1 r2 r3 r4 r5 r6 r7 r8 k0 k1 k2 k3 k4 k5 k6 k7 k8 m0 m1 m2 m3
  have i0 := ix0 a b c d
  have i1 := ix1 a b c d
  have i2 := ix2 a b c d
  have i3 := ix3 a b c d
  go_wp2_with fail
  refine (put16 _ _).mono ?_
  rintro e w3 ⟨rfl, hb3⟩
  have p0 := bcell hb3 o0
  have p1 := bcell hb3 o1
  have p2 := bcell hb3 o2
  have p3 := bcell hb3 o3
  clear n0 o0 o1 o2 o3
  go_wp2_with fail
  refine (put16 _ _).mono ?_
  rintro e w4 ⟨rfl, hb4⟩
  have o0 := bcell hb4 p0
  have o1 := bcell hb4 p1
  have o2 := bcell hb4 p2
  have o3 := bcell hb4 p3
  clear p0 p1 p2 p3
  go_wp2_with fail
  clear o0 o1 o2 o3
  refine wp_loop_rounds 5 ?_
  rw [rounds_succ]
  go_wp2_with fail
  refine (put16 _ _).mono ?_
  rintro e w5 ⟨rfl, hb5⟩
  go_wp2_with fail
  rw [rounds_succ]
  go_wp2_with fail
  refine (put16 _ _).mono ?_
  rintro e w6 ⟨rfl, hb6⟩
  go_wp2_with fail
  rw [rounds_succ]
  go_wp2_with fail
  refine (put16 _ _).mono ?_
  rintro e w7 ⟨rfl, hb7⟩
  go_wp2_with fail
  rw [rounds_succ]
  go_wp2_with fail
  refine (put16 _ _).mono ?_
  rintro e w8 ⟨rfl, hb8⟩
  go_wp2_with fail
  rw [rounds_succ]
  go_wp2
  go_ret2
  exact ⟨rfl, (below_next (below_next (below_next (below_next (below_next (below_next (below_next (below_next (below_alloc (below_alloc (Below.refl _ _) _) _) hb1) hb2) hb3) hb4) hb5) hb6) hb7) hb8)⟩
end Go.Proofs.Ytjklgdpffmaamaa.Hd

namespace Go.Proofs.Ytjklgdpffmaamaa.Hd
open Go.RowKit Go.PlainAid Go.Proofs.Ytjklgdpffmaamaa.Base Go.Proofs.Ytjklgdpffmaamaa.Oct
set_option linter.unusedVariables false

set_option maxHeartbeats 1000000 in
theorem put_no (h : Head) (a b c d : Int) (w : World) (hm : mayB h a b c d = false) :
    Calls Try.prog 56 #[h.val, arr4 a b c d] w fun e w' => e = .returned (.tuple #[.string ⟨#[]⟩, .int .i64 600]) ∧ Below w.heap.size w w' := by
  unfold Head.val arr4
  go_enter Try.func56, Try.ntmps56
  go_wp2_with fail
  refine (may_no h a b c d w.heap.size 0 _ ⟨by go_simp, by go_simp, by go_simp, by go_simp, by go_simp, by go_simp, by go_simp, by go_simp, by go_simp⟩ hm).mono ?_
  rintro e w1 ⟨rfl, hb1⟩
  go_wp2
  go_ret2
  exact ⟨rfl, below_next (below_alloc (below_alloc (Below.refl _ _) _) _) hb1⟩
end Go.Proofs.Ytjklgdpffmaamaa.Hd

namespace Go.Proofs.Ytjklgdpffmaamaa.Hd
open Go.RowKit Go.PlainAid Go.Proofs.Ytjklgdpffmaamaa.Base Go.Proofs.Ytjklgdpffmaamaa.Oct
set_option linter.unusedVariables false

def bitB (f : Int) (k : Int) : Bool := Go.bits .and .i64 (f / 2 ^ k.toNat) 1 == 1
theorem bitB15 (f : Int) : bitB f 15 = (Go.bits .and .i64 (f / 32768) 1 == 1) := rfl
theorem bitB10 (f : Int) : bitB f 10 = (Go.bits .and .i64 (f / 1024) 1 == 1) := rfl
theorem bitB9 (f : Int) : bitB f 9 = (Go.bits .and .i64 (f / 512) 1 == 1) := rfl
theorem bitB8 (f : Int) : bitB f 8 = (Go.bits .and .i64 (f / 256) 1 == 1) := rfl
theorem bitB7 (f : Int) : bitB f 7 = (Go.bits .and .i64 (f / 128) 1 == 1) := rfl
/-- The header that twelve bytes are. -/
def getH (s : ByteArray) : Head := ⟨be2 s 0, bitB (be2 s 2) 15, Go.bits .and .i64 (be2 s 2 / 2048) 15, bitB (be2 s 2) 10, bitB (be2 s 2) 9, bitB (be2 s 2) 8, bitB (be2 s 2) 7, Go.bits .and .i64 (be2 s 2 / 16) 7, Go.bits .and .i64 (be2 s 2) 15⟩
def getC (s : ByteArray) : Value := arr4 (be2 s 4) (be2 s 6) (be2 s 8) (be2 s 10)
def head0 : Head := ⟨0, false, 0, false, false, false, false, 0, 0⟩
set_option maxHeartbeats 2000000 in
theorem rget_yes (s : ByteArray) (w : World) (hs : s.size ≤ 9223372036854775000) (h : 12 ≤ s.size) :
    Calls Try.prog 48 #[.string s] w fun e w' => e = .returned (.tuple #[(getH s).val, getC s, .int .i64 0]) ∧ Below w.heap.size w w' := by
  have q : decide ((s.size : Int) < 12) = false := by simp; omega
  go_enter Try.func48, Try.ntmps48
  go_wp2_with (go_at_call 54; refine (rnum2z s _ _ hs (by omega) (by omega)).mono ?_; rintro e w' ⟨rfl, rfl⟩)
  refine wp_loop_rounds 5 ?_
  repeat (rw [rounds_succ]; go_wp2_with (go_at_call 54; refine (rnum2z s _ _ hs (by omega) (by omega)).mono ?_; rintro e w' ⟨rfl, rfl⟩))
  go_region
  go_wp2
  exact bodyPost_ret (v := .tuple #[(getH s).val, getC s, .int .i64 0]) (by simp [results, Try.results48, go_sem, getH, getC, Head.val, arr4, bitB15, bitB10, bitB9, bitB8, bitB7]) rfl ⟨rfl, below_drew (below_alloc (below_alloc (below_alloc (Below.refl _ _) _) _) _)⟩
set_option maxHeartbeats 2000000 in
theorem rget_no (s : ByteArray) (w : World) (h : s.size < 12) :
    Calls Try.prog 48 #[.string s] w fun e w' => e = .returned (.tuple #[head0.val, arr4 0 0 0 0, .int .i64 600]) ∧ Below w.heap.size w w' := by
  have q : decide ((s.size : Int) < 12) = true := by simp; omega
  go_enter Try.func48, Try.ntmps48
  go_wp2
  go_region
  go_wp2
  exact bodyPost_ret (v := .tuple #[head0.val, arr4 0 0 0 0, .int .i64 600]) (by simp [results, Try.results48, go_sem, head0, Head.val, arr4]) rfl ⟨rfl, below_drew (below_alloc (below_alloc (below_alloc (Below.refl _ _) _) _) _)⟩
/-! ### Get: the closure that looks at a bit -/
end Go.Proofs.Ytjklgdpffmaamaa.Hd

namespace Go.Proofs.Ytjklgdpffmaamaa.Hd
open Go.RowKit Go.PlainAid Go.Proofs.Ytjklgdpffmaamaa.Base Go.Proofs.Ytjklgdpffmaamaa.Oct
set_option linter.unusedVariables false

theorem eqf_cons {P : Program} {d : Nat} {xs ys : Array Value} {f : Field} {fs : List Field} {a b : Value} {r s : Bool} {w : World} (hn : (f.name == "_") = false) (ha : (part f.type xs f.offset).run P w = .ok a w) (hb : (part f.type ys f.offset).run P w = .ok b w) (he : (Op.equalIn d f.type a b).run P w = .ok r w) (hr : (Op.eqFields d xs ys fs).run P w = .ok s w) : (Op.eqFields d xs ys (f :: fs)).run P w = .ok (r && s) w := by
  have hn' : f.name ≠ "_" := by simpa using hn
  rw [Op.eqFields]
  simp only [if_pos hn', Sem.run_bind, ha, hb, he, Result.andThen_ok]
  cases r
  · simp
  · simpa using hr
theorem eqf_nil {P : Program} {d : Nat} {xs ys : Array Value} {w : World} : (Op.eqFields d xs ys []).run P w = .ok true w := by simp [Op.eqFields]
theorem eqA_of {P : Program} {d : Nat} {xs ys : Array Value} {r : Bool} {w : World} {t : TypeId} {fs : Array Field} (hu : P.underlying t = some (.struct fs)) (hp : P.stoodInHeld t = false) (h : (Op.eqFields d xs ys fs.toList).run P w = .ok r w) : (Op.equalIn (d + 1) t (.agg xs) (.agg ys)).run P w = .ok r w := by
  have hf : P.fieldsOf t = fs := by simp [Program.fieldsOf, hu]
  rw [run_equalIn_struct (P := P) w d t xs ys (by rw [hf]; exact hu) hp, hf]
  exact h

/-- Are two headers the same? -/
def Head.eqB (x y : Head) : Bool := x.id == y.id && (x.qr == y.qr && (x.op == y.op && (x.aa == y.aa && (x.tc == y.tc && (x.rd == y.rd && (x.ra == y.ra && (x.z == y.z && (x.rc == y.rc && true))))))))
theorem eqB_self (x : Head) : x.eqB x = true := by simp [Head.eqB]
theorem eqB_of {x y : Head} (h : x = y) : x.eqB y = true := by subst h; exact eqB_self x
theorem eqHead (x y : Head) (w : World) : (Op.equalIn 10000 23 (.agg #[.int .i64 x.id, .bool x.qr, .int .i64 x.op, .bool x.aa, .bool x.tc, .bool x.rd, .bool x.ra, .int .i64 x.z, .int .i64 x.rc]) (.agg #[.int .i64 y.id, .bool y.qr, .int .i64 y.op, .bool y.aa, .bool y.tc, .bool y.rd, .bool y.ra, .int .i64 y.z, .int .i64 y.rc])).run Try.prog w = .ok (x.eqB y) w := by
  refine eqA_of Try.underlying23 (by kernel_rfl) ?_
  unfold Head.eqB
  refine eqf_cons (by rfl) (by go_simp; rfl) (by go_simp; rfl) (by go_simp) ?_
  refine eqf_cons (by rfl) (by go_simp; rfl) (by go_simp; rfl) (by go_simp) ?_
  refine eqf_cons (by rfl) (by go_simp; rfl) (by go_simp; rfl) (by go_simp) ?_
  refine eqf_cons (by rfl) (by go_simp; rfl) (by go_simp; rfl) (by go_simp) ?_
  refine eqf_cons (by rfl) (by go_simp; rfl) (by go_simp; rfl) (by go_simp) ?_
  refine eqf_cons (by rfl) (by go_simp; rfl) (by go_simp; rfl) (by go_simp) ?_
  refine eqf_cons (by rfl) (by go_simp; rfl) (by go_simp; rfl) (by go_simp) ?_
  refine eqf_cons (by rfl) (by go_simp; rfl) (by go_simp; rfl) (by go_simp) ?_
  refine eqf_cons (by rfl) (by go_simp; rfl) (by go_simp; rfl) (by go_simp) ?_
  exact eqf_nil
set_option maxHeartbeats 400000 in
theorem numc (x : Int) (w : World) : Calls Try.prog 21 #[.int .i64 x] w fun e w' => e = .returned (.int .i64 x) ∧ w = w' := by
  go_enter Try.func21, Try.ntmps21
  go_wp2
  go_ret
  exact ⟨rfl, rfl⟩

/-! ### Get and GetHead, what is returned written out: for every string -/
def gotH (s : ByteArray) : Head := if 12 ≤ s.size then getH s else head0
def gotC (s : ByteArray) (k : Nat) : Int := if 12 ≤ s.size then be2 s k else 0
def gotE (s : ByteArray) : Int := if 12 ≤ s.size then 0 else 600
theorem gotH_yes {s : ByteArray} (h : 12 ≤ s.size) : gotH s = getH s := if_pos h
theorem gotC_yes {s : ByteArray} (h : 12 ≤ s.size) (k : Nat) : gotC s k = be2 s k := if_pos h
theorem gotE_yes {s : ByteArray} (h : 12 ≤ s.size) : gotE s = 0 := if_pos h
theorem gotE_no {s : ByteArray} (h : ¬ 12 ≤ s.size) : gotE s = 600 := if_neg h
theorem rgot (s : ByteArray) (w : World) (hs : s.size ≤ 9223372036854775000) :
    Calls Try.prog 48 #[.string s] w fun e w' => e = .returned (.tuple #[.agg #[.int .i64 (gotH s).id, .bool (gotH s).qr, .int .i64 (gotH s).op, .bool (gotH s).aa, .bool (gotH s).tc, .bool (gotH s).rd, .bool (gotH s).ra, .int .i64 (gotH s).z, .int .i64 (gotH s).rc], .agg #[.int .i64 (gotC s 4), .int .i64 (gotC s 6), .int .i64 (gotC s 8), .int .i64 (gotC s 10)], .int .i64 (gotE s)]) ∧ Below w.heap.size w w' := by
  by_cases h : 12 ≤ s.size
  · have := rget_yes s w hs h
    simp only [gotH, gotC, gotE, if_pos h]; exact this
  · have := rget_no s w (by omega)
    simp only [gotH, gotC, gotE, if_neg h]; exact this
/-! ### Put and PutHead: for every header -/
def wroteS (h : Head) (a b c d : Int) : ByteArray := if mayB h a b c d then h.putS a b c d else ⟨#[]⟩
def wroteE (h : Head) (a b c d : Int) : Int := if mayB h a b c d then 0 else 600
theorem wrote (h : Head) (a b c d : Int) (w : World) :
    Calls Try.prog 56 #[.agg #[.int .i64 h.id, .bool h.qr, .int .i64 h.op, .bool h.aa, .bool h.tc, .bool h.rd, .bool h.ra, .int .i64 h.z, .int .i64 h.rc], .agg #[.int .i64 a, .int .i64 b, .int .i64 c, .int .i64 d]] w fun e w' => e = .returned (.tuple #[.string (wroteS h a b c d), .int .i64 (wroteE h a b c d)]) ∧ Below w.heap.size w w' := by
  cases hm : mayB h a b c d
  · have := put_no h a b c d w hm
    simp only [wroteS, wroteE, hm]; exact this
  · have := put_yes h a b c d w hm
    simp only [wroteS, wroteE, hm]; exact this
end Go.Proofs.Ytjklgdpffmaamaa.Hd

namespace Go.Proofs.Ytjklgdpffmaamaa.Wm
open Go.RowKit Go.PlainAid Go.Maps Go.Proofs.Ytjklgdpffmaamaa.Base Go.Proofs.Ytjklgdpffmaamaa.Oct Go.Proofs.Ytjklgdpffmaamaa.Nm Go.Proofs.Ytjklgdpffmaamaa.Wr
open Go.Sort (grow)
set_option linter.unusedVariables false
structure Qn where
  name : ByteArray
  type : Int
  cls : Int
structure Rr where
  name : ByteArray
  type : Int
  cls : Int
  ttl : Int
  data : ByteArray
def zQ : Qn := ⟨⟨#[]⟩, 0, 0⟩
def zR : Rr := ⟨⟨#[]⟩, 0, 0, 0, ⟨#[]⟩⟩
structure AtQ (w : World) (p : Addr) (q : Qn) : Prop where
  c0 : w.cell? p = some (.string q.name)
  c1 : w.cell? ⟨p.block, p.off + 1, none⟩ = some (.int .i64 q.type)
  c2 : w.cell? ⟨p.block, p.off + 2, none⟩ = some (.int .i64 q.cls)
structure AtR (w : World) (p : Addr) (r : Rr) : Prop where
  c0 : w.cell? p = some (.string r.name)
  c1 : w.cell? ⟨p.block, p.off + 1, none⟩ = some (.int .i64 r.type)
  c2 : w.cell? ⟨p.block, p.off + 2, none⟩ = some (.int .i64 r.cls)
  c3 : w.cell? ⟨p.block, p.off + 3, none⟩ = some (.int .i64 r.ttl)
  c4 : w.cell? ⟨p.block, p.off + 4, none⟩ = some (.string r.data)
def QCells (w : World) (A : Option Addr) (qs : List Qn) : Prop := qs.length = 0 ∨ ∃ ad, A = some ad ∧ ∀ j, j < qs.length → AtQ w (ad.add (j * 3)) (qs.getD j zQ)
def RCells (w : World) (A : Option Addr) (rs : List Rr) : Prop := rs.length = 0 ∨ ∃ ad, A = some ad ∧ ∀ j, j < rs.length → AtR w (ad.add (j * 5)) (rs.getD j zR)
theorem AtQ.below {w w' : World} {p : Addr} {q : Qn} (h : AtQ w p q) (hb : Below w.heap.size w w') : AtQ w' p q := ⟨bcell hb h.c0, bcell hb h.c1, bcell hb h.c2⟩
theorem AtR.below {w w' : World} {p : Addr} {r : Rr} (h : AtR w p r) (hb : Below w.heap.size w w') : AtR w' p r := ⟨bcell hb h.c0, bcell hb h.c1, bcell hb h.c2, bcell hb h.c3, bcell hb h.c4⟩
theorem QCells.below {w w' : World} {A : Option Addr} {qs : List Qn} (h : QCells w A qs) (hb : Below w.heap.size w w') : QCells w' A qs := by
  rcases h with h | ⟨ad, e, h⟩
  · exact .inl h
  · exact .inr ⟨ad, e, fun j hj => (h j hj).below hb⟩
theorem RCells.below {w w' : World} {A : Option Addr} {rs : List Rr} (h : RCells w A rs) (hb : Below w.heap.size w w') : RCells w' A rs := by
  rcases h with h | ⟨ad, e, h⟩
  · exact .inl h
  · exact .inr ⟨ad, e, fun j hj => (h j hj).below hb⟩
def inB (x lo hi : Int) : Bool := decide (lo ≤ x) && decide (x ≤ hi)
def qMay (q : Qn) : Bool := nameB q.name && inB q.type 1 65535 && inB q.cls 0 65535
def rMay (r : Rr) : Bool := nameB r.name && inB r.type 1 65535 && inB r.cls 0 65535 && inB r.ttl 0 4294967295 && Rd.mayD r.type r.data
def fitsB (qs : List Qn) (an ns ar : List Rr) : Bool := decide (qs.length ≤ 64) && qs.all qMay && (decide (an.length ≤ 64) && an.all rMay) && (decide (ns.length ≤ 64) && ns.all rMay) && (decide (ar.length ≤ 64) && ar.all rMay)
theorem same_below {P : Program} {f : FuncId} {args : Array Value} {w : World} {v : Value} (h : Calls P f args w fun e w' => e = .returned v ∧ w' = w) : Calls P f args w fun e w' => e = .returned v ∧ Below w.heap.size w w' :=
  h.mono (fun e w' k => ⟨k.1, by rw [k.2]; exact Below.refl _ _⟩)
theorem inc (x lo hi : Int) (w : World) : Calls Try.prog 88 #[.int .i64 x, .int .i64 lo, .int .i64 hi] w fun e w' => e = .returned (.bool (inB x lo hi)) ∧ w' = w := by
  unfold inB
  by_cases h1 : lo ≤ x
  · have q1 : decide (lo ≤ x) = true := decide_eq_true h1
    by_cases h2 : x ≤ hi
    · have q2 : decide (x ≤ hi) = true := decide_eq_true h2
      rw [q1, q2]
      go_enter Try.func88, Try.ntmps88
      go_wp2
      go_ret
      exact ⟨rfl, rfl⟩
    · have q2 : decide (x ≤ hi) = false := decide_eq_false h2
      rw [q1, q2]
      go_enter Try.func88, Try.ntmps88
      go_wp2
      go_ret
      exact ⟨rfl, rfl⟩
  · have q1 : decide (lo ≤ x) = false := decide_eq_false h1
    rw [q1]
    go_enter Try.func88, Try.ntmps88
    go_wp2
    go_ret
    exact ⟨rfl, rfl⟩
/-- The first of five that is false, if any. -/
theorem five (b0 b1 b2 b3 b4 : Bool) : b0 = false ∨ (b0 = true ∧ b1 = false) ∨ (b0 = true ∧ b1 = true ∧ b2 = false) ∨ (b0 = true ∧ b1 = true ∧ b2 = true ∧ b3 = false) ∨ (b0 = true ∧ b1 = true ∧ b2 = true ∧ b3 = true ∧ b4 = false) ∨ (b0 = true ∧ b1 = true ∧ b2 = true ∧ b3 = true ∧ b4 = true) := by
  cases b0 <;> cases b1 <;> cases b2 <;> cases b3 <;> cases b4 <;> simp
set_option maxHeartbeats 4000000 in
theorem mayc (r : Rr) (p : Addr) (w : World) (h : AtR w p r) (hs : r.data.size ≤ 9223372036854775000) : Calls Try.prog 89 #[.pointer (some p)] w fun e w' => e = .returned (.bool (rMay r)) ∧ Below w.heap.size w w' := by
  have k0 := fun w => may r.name w
  have k1 := fun w => same_below (inc r.type 1 65535 w)
  have k2 := fun w => same_below (inc r.cls 0 65535 w)
  have k3 := fun w => same_below (inc r.ttl 0 4294967295 w)
  have k4 := fun w => Rd.dmay r.type r.data w hs
  have r0 := cell_regrown h.c0
  have r1 := cell_regrown h.c1
  have r2 := cell_regrown h.c2
  have r3 := cell_regrown h.c3
  have r4 := cell_regrown h.c4
  unfold rMay
  generalize nameB r.name = b0 at *
  generalize inB r.type 1 65535 = b1 at *
  generalize inB r.cls 0 65535 = b2 at *
  generalize inB r.ttl 0 4294967295 = b3 at *
  generalize Rd.mayD r.type r.data = b4 at *
  rcases five b0 b1 b2 b3 b4 with rfl | ⟨rfl, rfl⟩ | ⟨rfl, rfl, rfl⟩ | ⟨rfl, rfl, rfl, rfl⟩ | ⟨rfl, rfl, rfl, rfl, rfl⟩ | ⟨rfl, rfl, rfl, rfl, rfl⟩
  all_goals
    go_enter Try.func89, Try.ntmps89
    go_upto_region 1 with (fail)
    refine wp_region_quiet_below (by kernel_rfl) (by kernel_rfl) ?_
    repeat (go_big_quiet_step (first | with_reducible exact Calls.regrown_of (k0 _) | with_reducible exact Calls.regrown_of (k1 _) | with_reducible exact Calls.regrown_of (k2 _) | with_reducible exact Calls.regrown_of (k3 _) | with_reducible exact Calls.regrown_of (k4 _)))
    refine wpQuiet_nil ?_
    intro _ hw'
    obtain ⟨⟨dq, osq⟩, hw''⟩ := hw'
    subst hw''
    go_wp2
    go_ret
    exact ⟨rfl, below_regrown _ _ _⟩
end Go.Proofs.Ytjklgdpffmaamaa.Wm

namespace Go.Proofs.Ytjklgdpffmaamaa.Wm
open Go.RowKit Go.PlainAid Go.Maps Go.Proofs.Ytjklgdpffmaamaa.Base Go.Proofs.Ytjklgdpffmaamaa.Oct Go.Proofs.Ytjklgdpffmaamaa.Nm Go.Proofs.Ytjklgdpffmaamaa.Wr
open Go.Proofs.YtjklgdpffmaamaaW.PrintWords (blk_cell blk_below)
set_option linter.unusedVariables false
/-- A message: its header, its rows, where they lie. -/
structure MsgV where
  h : Hd.Head
  Aq : Option Addr
  cq : Nat
  qs : List Qn
  Aa : Option Addr
  ca : Nat
  an : List Rr
  An : Option Addr
  cn : Nat
  ns : List Rr
  Ar : Option Addr
  cr : Nat
  ar : List Rr
abbrev MsgV.vq (m : MsgV) : Value := .slice m.Aq m.qs.length m.cq
abbrev MsgV.va (m : MsgV) : Value := .slice m.Aa m.an.length m.ca
abbrev MsgV.vn (m : MsgV) : Value := .slice m.An m.ns.length m.cn
abbrev MsgV.vr (m : MsgV) : Value := .slice m.Ar m.ar.length m.cr
abbrev MsgV.cells (m : MsgV) : Array Value := #[.int .i64 m.h.id, .bool m.h.qr, .int .i64 m.h.op, .bool m.h.aa, .bool m.h.tc, .bool m.h.rd, .bool m.h.ra, .int .i64 m.h.z, .int .i64 m.h.rc, .slice m.Aq m.qs.length m.cq, .slice m.Aa m.an.length m.ca, .slice m.An m.ns.length m.cn, .slice m.Ar m.ar.length m.cr]
def small (rs : List Rr) : Prop := ∀ r ∈ rs, r.data.size ≤ 9223372036854775000
structure MsgV.Lies (m : MsgV) (w : World) : Prop where
  q : QCells w m.Aq m.qs
  a : RCells w m.Aa m.an
  n : RCells w m.An m.ns
  r : RCells w m.Ar m.ar
  lq : m.qs.length ≤ m.cq
  la : m.an.length ≤ m.ca
  ln : m.ns.length ≤ m.cn
  lr : m.ar.length ≤ m.cr
  sa : small m.an
  sn : small m.ns
  sr : small m.ar
theorem MsgV.Lies.below {m : MsgV} {w w' : World} (h : m.Lies w) (hb : Below w.heap.size w w') : m.Lies w' :=
  ⟨h.q.below hb, h.a.below hb, h.n.below hb, h.r.below hb, h.lq, h.la, h.ln, h.lr, h.sa, h.sn, h.sr⟩
theorem three (b0 b1 b2 : Bool) : b0 = false ∨ (b0 = true ∧ b1 = false) ∨ (b0 = true ∧ b1 = true ∧ b2 = false) ∨ (b0 = true ∧ b1 = true ∧ b2 = true) := by
  cases b0 <;> cases b1 <;> cases b2 <;> simp
theorem idx3 (a b c : Value) (w : World) : (Instr.index 114 (.agg #[a, b, c]) (.int .i64 0)).run Try.prog w = .ok a w ∧ (Instr.index 114 (.agg #[a, b, c]) (.int .i64 1)).run Try.prog w = .ok b w ∧ (Instr.index 114 (.agg #[a, b, c]) (.int .i64 2)).run Try.prog w = .ok c w := ⟨by kernel_rfl, by kernel_rfl, by kernel_rfl⟩
theorem get_rows {m : MsgV} {w : World} (h : m.Lies w) (p : Nat) (hp : p < 3) : ∃ (A : Option Addr) (l : List Rr) (c : Nat), (∀ w', (Instr.index 114 (.agg #[.slice m.Aa m.an.length m.ca, .slice m.An m.ns.length m.cn, .slice m.Ar m.ar.length m.cr]) (.int .i64 (p : Int))).run Try.prog w' = .ok (.slice A l.length c) w') ∧ RCells w A l ∧ l.length ≤ c ∧ small l ∧ l = [m.an, m.ns, m.ar].getD p [] := by
  obtain rfl | rfl | rfl : p = 0 ∨ p = 1 ∨ p = 2 := by omega
  · exact ⟨m.Aa, m.an, m.ca, fun w' => (idx3 _ _ _ w').1, h.a, h.la, h.sa, rfl⟩
  · exact ⟨m.An, m.ns, m.cn, fun w' => (idx3 _ _ _ w').2.1, h.n, h.ln, h.sn, rfl⟩
  · exact ⟨m.Ar, m.ar, m.cr, fun w' => (idx3 _ _ _ w').2.2, h.r, h.lr, h.sr, rfl⟩
def listOk (rs : List Rr) : Bool := decide (rs.length ≤ 64) && rs.all rMay
theorem fits_eq (m : MsgV) : fitsB m.qs m.an m.ns m.ar = (decide (m.qs.length ≤ 64) && m.qs.all qMay && [m.an, m.ns, m.ar].all listOk) := by
  simp [fitsB, listOk, Bool.and_assoc]
set_option maxHeartbeats 8000000 in
set_option maxRecDepth 100000 in
theorem fitsc (m : MsgV) (b : Nat) (w : World) (hb : w.heap[b]? = some (.cells m.cells 27 (0, 0))) (hm : m.Lies w) :
    Calls Try.prog 57 #[ptr b] w fun e w' => e = .returned (.bool (fitsB m.qs m.an m.ns m.ar)) ∧ Below w.heap.size w w' := by
  rw [fits_eq]
  have hrows := fun p hp => get_rows hm p hp
  have hmq := hm.q
  have hlq := hm.lq
  clear hm
  rcases m with ⟨h, Aq, cq, qs, Aa, ca, an, An, cn, ns, Ar, cr, ar⟩
  dsimp only [MsgV.cells] at hb hrows hmq hlq ⊢
  have c9 : w.cell? ⟨b, 9, none⟩ = some (.slice Aq qs.length cq) := (blk_cell hb 9).trans rfl
  have c10 : w.cell? ⟨b, 10, none⟩ = some (.slice Aa an.length ca) := (blk_cell hb 10).trans rfl
  have c11 : w.cell? ⟨b, 11, none⟩ = some (.slice An ns.length cn) := (blk_cell hb 11).trans rfl
  have c12 : w.cell? ⟨b, 12, none⟩ = some (.slice Ar ar.length cr) := (blk_cell hb 12).trans rfl
  go_enter Try.func57, Try.ntmps57
  by_cases hq : 64 < qs.length
  · have q : decide ((64 : Int) < (qs.length : Int)) = true := by simp; omega
    have e : decide (qs.length ≤ 64) = false := decide_eq_false (by omega)
    rw [e]
    clear hq
    go_wp2
    go_ret
    exact ⟨rfl, Below.refl _ _⟩
  have q : decide ((64 : Int) < (qs.length : Int)) = false := by simp; omega
  have e : decide (qs.length ≤ 64) = true := decide_eq_true (by omega)
  rw [e]
  clear e
  go_wp2_with fail
  go_loopg [19] (qs.length + 1) (fun k v19 wr => ∃ j : Nat, v19 = .int .i64 j ∧ j + k = qs.length + 1 ∧ j ≤ qs.length ∧ (qs.take j).all qMay = true ∧ Below w.heap.size w wr)
  case atStart => exact ⟨0, rfl, by omega, by omega, rfl, Below.refl _ _⟩
  case round =>
    obtain ⟨j, rfl, hk1, hk2, hall, B⟩ := hrel
    have HALL := Lib.hid hall
    clear hall
    have sB := B.size
    by_cases hj : j < qs.length
    · have q0 : decide ((j : Int) < (qs.length : Int)) = true := by simp; omega
      obtain ⟨ad, eA, hat⟩ : ∃ ad, Aq = some ad ∧ ∀ j, j < qs.length → AtQ w (ad.add (j * 3)) (qs.getD j zQ) := by
        rcases hmq with h | h
        · omega
        · exact h
      subst eA
      have ha := (hat j hj).below B
      have htk : (qs.take (j + 1)).all qMay = ((qs.take j).all qMay && qMay (qs.getD j zQ)) := by
        rw [List.take_succ_eq_append_getElem hj, List.all_append, List.getD_eq_getElem?_getD, List.getElem?_eq_getElem hj]; simp
      have hany : qMay (qs.getD j zQ) = false → qs.all qMay = false := fun h => by
        rw [List.all_eq_false]
        refine ⟨qs.getD j zQ, ?_, by rw [h]; simp⟩
        rw [List.getD_eq_getElem?_getD, List.getElem?_eq_getElem hj]; exact List.getElem_mem hj
      generalize qs.getD j zQ = x at *
      obtain ⟨d0, d1, d2⟩ := ha
      have k0 := fun w => may x.name w
      have k1 := fun w => inc x.type 1 65535 w
      have k2 := fun w => inc x.cls 0 65535 w
      have hqx : qMay x = (nameB x.name && inB x.type 1 65535 && inB x.cls 0 65535) := rfl
      have HQX0 := Lib.hid hqx
      clear hqx
      have hqx := HQX0.out
      clear HQX0
      generalize nameB x.name = b0 at *
      generalize inB x.type 1 65535 = b1 at *
      generalize inB x.cls 0 65535 = b2 at *
      have HQX := Lib.hid hqx
      clear hqx
      have HTK := Lib.hid htk
      have HANY := Lib.hid hany
      clear htk hany
      go_wp2_with fail
      refine (k0 _).mono ?_
      rintro e w1 ⟨rfl, B1⟩
      have e1 : w1.cell? ⟨wr.heap.size, 1, none⟩ = some (.int .i64 x.type) := bcell B1 (by go_simp)
      have e2 : w1.cell? ⟨wr.heap.size, 2, none⟩ = some (.int .i64 x.cls) := bcell B1 (by go_simp)
      have B2 := (B.alloc sB (.cells #[.string x.name, .int .i64 x.type, .int .i64 x.cls] 40)).trans (B1.mono (by simp; omega))
      rcases three b0 b1 b2 with rfl | ⟨rfl, rfl⟩ | ⟨rfl, rfl, rfl⟩ | ⟨rfl, rfl, rfl⟩
      · go_wp2
        go_ret
        have E := HANY.out (by rw [HQX.out]; rfl)
        exact ⟨by rw [E]; rfl, B2⟩
      · go_wp2_with (first | (go_at_call 88; with_reducible refine (k1 _).mono ?_; rintro e w' ⟨rfl, rfl⟩) | (go_at_call 88; with_reducible refine (k2 _).mono ?_; rintro e w' ⟨rfl, rfl⟩))
        go_ret
        have E := HANY.out (by rw [HQX.out]; rfl)
        exact ⟨by rw [E]; rfl, B2⟩
      · go_wp2_with (first | (go_at_call 88; with_reducible refine (k1 _).mono ?_; rintro e w' ⟨rfl, rfl⟩) | (go_at_call 88; with_reducible refine (k2 _).mono ?_; rintro e w' ⟨rfl, rfl⟩))
        go_ret
        have E := HANY.out (by rw [HQX.out]; rfl)
        exact ⟨by rw [E]; rfl, B2⟩
      · go_wp2_with (first | (go_at_call 88; with_reducible refine (k1 _).mono ?_; rintro e w' ⟨rfl, rfl⟩) | (go_at_call 88; with_reducible refine (k2 _).mono ?_; rintro e w' ⟨rfl, rfl⟩))
        go_roundg (gk - 1)
        case measure => omega
        case rel => exact ⟨j + 1, rfl, by omega, by omega, by rw [HTK.out, HALL.out, HQX.out]; rfl, B2⟩
    · have q0 : decide ((j : Int) < (qs.length : Int)) = false := by simp; omega
      have hqall : qs.all qMay = true := by have := HALL.out; rwa [List.take_of_length_le (by omega)] at this
      have HQ := Lib.hid hqall
      clear hqall
      have d9 := bcell B c9
      have d10 := bcell B c10
      have d11 := bcell B c11
      have d12 := bcell B c12
      clear HALL
      go_upto_region 9 with (fail)
      go_cut [52, 53] (fun v52 v53 wc => v52 = .agg #[.slice Aa an.length ca, .slice An ns.length cn, .slice Ar ar.length cr] ∧ v53 = .int .i64 0 ∧ Below w.heap.size w wc)
      case first =>
        go_region
        all_goals
          go_wp2
          go_meet
          case rel => exact ⟨rfl, rfl, B.drew⟩
      case rest =>
      obtain ⟨rfl, rfl, Bc⟩ := hcut
      clear d9 d10 d11 d12 B sB c9 c10 c11 c12 hmq
      go_wp2_with fail
      go_loopg [53] 4 (fun k v53 wr => ∃ p : Nat, v53 = .int .i64 p ∧ p + k = 4 ∧ p ≤ 3 ∧ ([an, ns, ar].take p).all listOk = true ∧ Below w.heap.size w wr)
      case atStart => exact ⟨0, rfl, rfl, by omega, rfl, Bc⟩
      case round =>
        obtain ⟨p, rfl, hp1, hp2, hall, B⟩ := hrel
        have HALL := Lib.hid hall
        clear hall
        have sB := B.size
        by_cases hp : p < 3
        · have q0 : decide ((p : Int) < 3) = true := by simp; omega
          obtain ⟨A, l, c, hix, hcl, hlc, hsm, hl⟩ := hrows p hp
          have htk : ([an, ns, ar].take (p + 1)).all listOk = (([an, ns, ar].take p).all listOk && listOk l) := by
            obtain rfl | rfl | rfl : p = 0 ∨ p = 1 ∨ p = 2 := by omega
            all_goals simp [hl, Bool.and_assoc]
          have hany : listOk l = false → [an, ns, ar].all listOk = false := fun h => by
            rw [List.all_eq_false]
            refine ⟨l, ?_, by rw [h]; simp⟩
            obtain rfl | rfl | rfl : p = 0 ∨ p = 1 ∨ p = 2 := by omega
            all_goals simp [hl]
          have HTK := Lib.hid htk
          have HANY := Lib.hid hany
          clear htk hany hl
          by_cases hq : 64 < l.length
          · have q : decide ((64 : Int) < (l.length : Int)) = true := by simp; omega
            have e : listOk l = false := by unfold listOk; rw [decide_eq_false (by omega)]; rfl
            have E := HANY.out e
            clear hq
            go_wp2
            go_ret
            exact ⟨by rw [HQ.out, E]; rfl, B⟩
          have q : decide ((64 : Int) < (l.length : Int)) = false := by simp; omega
          have e : listOk l = l.all rMay := by unfold listOk; rw [decide_eq_true (by omega)]; rfl
          have HE := Lib.hid e
          clear e
          go_wp2_with fail
          go_loopg [61] (l.length + 1) (fun k v61 wq => ∃ j : Nat, v61 = .int .i64 j ∧ j + k = l.length + 1 ∧ j ≤ l.length ∧ (l.take j).all rMay = true ∧ Below w.heap.size w wq)
          case atStart => exact ⟨0, rfl, by omega, by omega, rfl, B⟩
          case round =>
            obtain ⟨j, rfl, hj1, hj2, hall, Bq⟩ := hrel
            have HALLQ := Lib.hid hall
            clear hall
            by_cases hj : j < l.length
            · have q2 : decide ((j : Int) < (l.length : Int)) = true := by simp; omega
              obtain ⟨ad, eA, hat⟩ : ∃ ad, A = some ad ∧ ∀ j, j < l.length → AtR w (ad.add (j * 5)) (l.getD j zR) := by
                rcases hcl with h | h
                · omega
                · exact h
              subst eA
              have ha := (hat j hj).below Bq
              have hmem : l.getD j zR ∈ l := by rw [List.getD_eq_getElem?_getD, List.getElem?_eq_getElem hj]; exact List.getElem_mem hj
              have htk : (l.take (j + 1)).all rMay = ((l.take j).all rMay && rMay (l.getD j zR)) := by
                rw [List.take_succ_eq_append_getElem hj, List.all_append, List.getD_eq_getElem?_getD, List.getElem?_eq_getElem hj]; simp
              have hany2 : rMay (l.getD j zR) = false → l.all rMay = false := fun h => by
                rw [List.all_eq_false]; exact ⟨_, hmem, by rw [h]; simp⟩
              have km := mayc (l.getD j zR) (ad.add (j * 5)) wr ha (hsm _ hmem)
              generalize rMay (l.getD j zR) = bb at *
              have HTK2 := Lib.hid htk
              have HANY2 := Lib.hid hany2
              clear htk hany2 hmem ha
              go_wp2_with fail
              refine km.mono ?_
              rintro e w1 ⟨rfl, B1⟩
              have B2 := Bq.trans (B1.mono Bq.size)
              cases bb with
              | false =>
                have E := HANY.out (HE.out.trans (HANY2.out rfl))
                go_wp2
                go_ret
                exact ⟨by rw [HQ.out, E]; rfl, B2⟩
              | true =>
                go_wp2
                go_roundg (l.length - j)
                case measure => omega
                case rel => exact ⟨j + 1, rfl, by omega, by omega, by rw [HTK2.out, HALLQ.out]; rfl, B2⟩
            · have q2 : decide ((j : Int) < (l.length : Int)) = false := by simp; omega
              have hok : listOk l = true := by rw [HE.out]; have := HALLQ.out; rwa [List.take_of_length_le (by omega)] at this
              have E : ([an, ns, ar].take (p + 1)).all listOk = true := by rw [HTK.out, HALL.out, hok]; rfl
              have HEE := Lib.hid E
              clear E hok
              go_wp2
              go_roundg (3 - p)
              case measure => omega
              case rel => exact ⟨p + 1, rfl, by omega, by omega, HEE.out, Bq⟩
        · have q0 : decide ((p : Int) < 3) = false := by simp; omega
          obtain rfl : p = 3 := by omega
          go_wp2
          go_ret
          exact ⟨by have := HALL.out; rw [show [an, ns, ar].take 3 = [an, ns, ar] from rfl] at this; rw [HQ.out, this]; rfl, B⟩
end Go.Proofs.Ytjklgdpffmaamaa.Wm

namespace Go.Proofs.Ytjklgdpffmaamaa.Pu
open Go.RowKit Go.Proofs.YtjklgdpffmaamaaW.PrintWords
set_option linter.unusedVariables false

/-! ### whole numbers -/
theorem w64 {x : Int} (h0 : -9223372036854775808 ≤ x) (h1 : x ≤ 9223372036854775807) : wrap64 x = x := by unfold wrap64; omega
theorem wraps_i64 (n : Int) (h0 : 0 ≤ n) (h1 : n < 2 ^ 63) : IntKind.i64.wrap n = n := by
  rw [IntKind.wrap_i64]; omega
theorem or_shl (k : Nat) (hk : k ≤ 62) (a b : Int) (ha : 0 ≤ a) (hb : 0 ≤ b) (hb' : b < 2 ^ k) (hs : a * 2 ^ k + b < 2 ^ 63) : Go.bits .or .i64 (a * 2 ^ k) b = a * 2 ^ k + b := by
  have hp : (0 : Int) < 2 ^ k := by exact_mod_cast Nat.two_pow_pos k
  have h1 : 0 ≤ a * 2 ^ k := Int.mul_nonneg ha (by omega)
  have h2 : (2 : Int) ^ k ≤ 2 ^ 62 := by exact_mod_cast Nat.pow_le_pow_right (by decide) hk
  refine bits_join .i64 63 (by decide) wraps_i64 k (a * 2 ^ k) b h1 (Int.mul_emod_left _ _) (by omega) hb (by exact_mod_cast hb') (by omega)
theorem or_shl8 (a b : Int) (ha : 0 ≤ a) (ha' : a ≤ 36028797018963967) (hb : 0 ≤ b) (hb' : b ≤ 255) : Go.bits .or .i64 (a * 256) b = a * 256 + b :=
  bits_join .i64 63 (by decide) wraps_i64 8 (a * 256) b (by omega) (by omega) (by omega) hb (by omega) (by omega)
theorem and_mask (i : Nat) (hi : i ≤ 63) (x : Int) : Go.bits .and .i64 x (2 ^ i - 1) = x % 2 ^ i := by
  have hpos : 0 < 2 ^ i := Nat.two_pow_pos i
  have hle : 2 ^ i ≤ 2 ^ 63 := Nat.pow_le_pow_right (by decide) hi
  have hc : ((2 : Int) ^ i - 1) = ((2 ^ i - 1 : Nat) : Int) := by rw [Int.natCast_sub hpos]; simp
  have hm : (2 ^ i - 1) % 2 ^ 64 = 2 ^ i - 1 := Nat.mod_eq_of_lt (by omega)
  have hx : (BitVec.ofInt 64 x).toNat = (x % 18446744073709551616).toNat := by simp [BitVec.toNat_ofInt]
  have e : ((x % 18446744073709551616).toNat : Int) = x % 18446744073709551616 := by omega
  have hd : (2 : Int) ^ i ∣ 18446744073709551616 := by
    have : (18446744073709551616 : Int) = 2 ^ i * 2 ^ (64 - i) := by rw [← Int.pow_add]; rw [show i + (64 - i) = 64 by omega]; decide
    exact ⟨_, this⟩
  rw [hc]
  show IntKind.i64.wrap (((BitVec.ofInt 64 x &&& BitVec.ofInt 64 ((2 ^ i - 1 : Nat) : Int)).toNat : Nat) : Int) = _
  rw [BitVec.toNat_and, BitVec.ofInt_natCast, BitVec.toNat_ofNat, hm, hx, Nat.and_two_pow_sub_one_eq_mod]
  have e2 : (((x % 18446744073709551616).toNat % 2 ^ i : Nat) : Int) = x % 2 ^ i := by
    rw [Int.natCast_emod, e]; push_cast
    exact Int.emod_emod_of_dvd _ hd
  rw [e2]
  have h2 : (0 : Int) < 2 ^ i := by exact_mod_cast hpos
  have h3 : (2 : Int) ^ i ≤ 2 ^ 63 := by exact_mod_cast hle
  have := Int.emod_nonneg x (Int.ne_of_gt h2)
  have := Int.emod_lt_of_pos x h2
  exact wraps_i64 _ (by assumption) (by omega)
theorem and_1 (x : Int) : Go.bits .and .i64 x 1 = x % 2 := and_mask 1 (by decide) x
theorem and_63 (x : Int) : Go.bits .and .i64 x 63 = x % 64 := and_mask 6 (by decide) x
theorem and_16383 (x : Int) : Go.bits .and .i64 x 16383 = x % 16384 := and_mask 14 (by decide) x
/-! ### lists -/
theorem getD_lt {α : Type} {l : List α} {d : α} {i : Nat} (h : i < l.length) : l.getD i d = l[i] := by
  rw [List.getD_eq_getElem?_getD, List.getElem?_eq_getElem h]; rfl
/-! ### strings as bytes -/
theorem data_length (s : ByteArray) : s.data.toList.length = s.size := by rw [Array.length_toList]; rfl
theorem ext_data {a b : ByteArray} (h : a.data.toList = b.data.toList) : a = b := ByteArray.ext (Array.ext' h)
theorem bytesOf_inj {a b : ByteArray} (h : bytesOf a = bytesOf b) : a = b := by
  apply ext_data
  unfold bytesOf at h
  refine List.map_inj_right (f := fun b : UInt8 => (b.toNat : Int)) (fun x y e => ?_) |>.1 h
  exact UInt8.toNat_inj.1 (by exact_mod_cast e)
theorem bytesOf_append (a b : ByteArray) : bytesOf (a ++ b) = bytesOf a ++ bytesOf b := by
  unfold bytesOf; rw [ByteArray.data_append, Array.toList_append, List.map_append]
theorem byte_range {s : ByteArray} {x : Int} (h : x ∈ bytesOf s) : 0 ≤ x ∧ x ≤ 255 := by
  unfold bytesOf at h
  obtain ⟨b, _, rfl⟩ := List.mem_map.1 h
  have := b.toNat_lt
  omega
theorem bytesOf_nums {xs : List Int} (h : ∀ x ∈ xs, 0 ≤ x ∧ x ≤ 255) : bytesOf (strOfNums xs) = xs := by
  unfold bytesOf
  rw [Go.strOfNums_data, List.map_map]
  conv => rhs; rw [← List.map_id xs]
  refine List.map_congr_left fun x hx => ?_
  have := h x hx
  simp only [Function.comp_apply, UInt8.toNat_ofNat', id]
  omega
theorem nums_bytesOf (s : ByteArray) : strOfNums (bytesOf s) = s := bytesOf_inj (bytesOf_nums fun _ h => byte_range h)
theorem bt_bytes (s : ByteArray) (i : Nat) : bt s (i : Int) = (bytesOf s).getD i 0 := by
  unfold bt bytesOf
  rw [List.getD_eq_getElem?_getD, List.getElem?_map]
  split
  · rename_i h
    have h' : i < s.size := by simpa using h
    rw [List.getElem?_eq_getElem (by rw [data_length]; exact h')]
    simp
    rfl
  · rename_i h
    have h' : ¬ i < s.size := by simpa using h
    rw [List.getElem?_eq_none (by rw [data_length]; omega)]
    rfl
/-! ### from some number of rounds on -/
section
variable {α β : Type} {r : α}
theorem Ev.pos {c : Prop} [Decidable c] {f g : Nat → Option α} (h : c) (k : Ev f r) : Ev (fun n => if c then f n else g n) r := by
  simp only [if_pos h]; exact k
theorem Ev.neg {c : Prop} [Decidable c] {f g : Nat → Option α} (h : ¬ c) (k : Ev g r) : Ev (fun n => if c then f n else g n) r := by
  simp only [if_neg h]; exact k
theorem Ev.some (f : Nat → Option α) (h : ∀ n, f n = some r) : Ev f r := ⟨0, fun n _ => h n⟩
/-- A call that needs no rounds. -/
theorem Ev.call {g : Option β} {f : Nat → β → Option α} {a : β} (h : g = Option.some a) (k : Ev (fun n => f n a) r) : Ev (fun n => g.bind (f n)) r := by
  subst h; exact k
end
end Go.Proofs.Ytjklgdpffmaamaa.Pu

namespace Go.Proofs.Ytjklgdpffmaamaa.Wm
open Go.RowKit Go.PlainAid Go.Maps Go.Proofs.Ytjklgdpffmaamaa.Base Go.Proofs.Ytjklgdpffmaamaa.Oct Go.Proofs.Ytjklgdpffmaamaa.Nm Go.Proofs.Ytjklgdpffmaamaa.Wr
open Go.Proofs.YtjklgdpffmaamaaW.PrintWords (blk_cell blk_below blk_put blk_frozen blk_ne own_typed own_setCell own_ne bytesOf bytesOf_length blk_lt)
set_option linter.unusedVariables false
/-- What has been written, what is kept, whether something was too long. -/
structure St where
  S : ByteArray
  m : ByteArray → Option Int
  lg : Bool
def rawSt (st : St) (s : ByteArray) : St := if 4096 < st.S.size + s.size then ⟨st.S, st.m, true⟩ else ⟨st.S ++ s, st.m, st.lg⟩
def nameSt (st : St) (n : ByteArray) : St := if nameB n then (if 4096 < st.S.size + (outN st.m n).size then ⟨st.S, st.m, true⟩ else ⟨st.S ++ outN st.m n, putN st.m n st.S.size, st.lg⟩) else ⟨st.S, st.m, true⟩
def qSt (st : St) (n : ByteArray) (t c : Int) : St := rawSt (nameSt st n) (p16 t ++ p16 c)
structure Ww (base : Nat) (w : World) (gw g gm : Nat) (st : St) : Prop where
  gb : base ≤ gw
  blk : w.heap[gw]? = some (.cells #[ptr g, .bool st.lg] 111 (0, 0))
  wr : ∃ v, Wr base w g gm v (bytesOf st.S) st.m
/-- What a call on wire's writer leaves as it was. -/
structure Kw (w w' : World) (gw g gm : Nat) : Prop where
  size : w.heap.size ≤ w'.heap.size
  block : ∀ k, k < w.heap.size → k ≠ gw → k ≠ g → k ≠ gm → (∀ cs, w.heap[k]? ≠ some (.cells cs 5 (0, 0))) → w'.heap[k]? = w.heap[k]?
section
variable {base gw g gm : Nat} {w w' w1 : World} {st : St} {v : Value} {m : ByteArray → Option Int} {xs : List Int}
theorem Kw.refl (w : World) (gw g gm : Nat) : Kw w w gw g gm := ⟨Nat.le_refl _, fun _ _ _ _ _ _ => rfl⟩
theorem Kw.below (hb : Below w.heap.size w w') : Kw w w' gw g gm := ⟨hb.size, fun k hk _ _ _ _ => hb.block k hk⟩
theorem Kw.trans (h : Kw w w1 gw g gm) (k : Kw w1 w' gw g gm) : Kw w w' gw g gm :=
  ⟨Nat.le_trans h.size k.size, fun i hi a b c d => by
    have e := h.block i hi a b c d
    exact (k.block i (Nat.lt_of_lt_of_le hi h.size) a b c (fun cs => by rw [e]; exact d cs)).trans e⟩
theorem Ww.below (H : Ww base w gw g gm st) (hb : Below w.heap.size w w') : Ww base w' gw g gm st := by
  obtain ⟨v, h⟩ := H.wr
  exact ⟨H.gb, blk_below H.blk hb, v, h.below hb⟩
theorem Ww.base_le (H : Ww base w gw g gm st) : base ≤ w.heap.size := Nat.le_trans H.gb (Nat.le_of_lt (blk_lt H.blk))
theorem Kp.kw (K : Kp w w' g gm) : Kw w w' gw g gm := ⟨K.size, fun k hk _ b c d => K.block k hk b c d⟩
theorem Wr.map_blk (H : Wr base w g gm v xs m) : ∃ es c, w.heap[gm]? = some (.map es c) := by
  obtain ⟨n, D, hn, ⟨es, clock, hb, F⟩, ht⟩ := H.map
  exact ⟨es, clock, hb⟩
/-- The box of wire's writer, behind a call on the writer within. -/
theorem Ww.box (H : Ww base w gw g gm st) (K : Kp w w' g gm) : w'.heap[gw]? = some (.cells #[ptr g, .bool st.lg] 111 (0, 0)) := by
  obtain ⟨v, h⟩ := H.wr
  obtain ⟨es, c, hm⟩ := Wr.map_blk h
  rw [K.block gw (blk_lt H.blk) (blk_ne H.blk h.blk (by decide)) ?_ ?_, H.blk]
  · rintro rfl; rw [H.blk] at hm; cases hm
  · intro cs q; rw [H.blk] at q; injection q with q; injection q with _ q; exact absurd q (by decide)
/-- The flag is written: all else stays. -/
theorem flagged {lg : Bool} (hb : base ≤ gw) (hblk : w.heap[gw]? = some (.cells #[ptr g, .bool lg] 111 (0, 0))) (h : Wr base w g gm v xs m) (b : Bool) :
    (w.setCell ⟨gw, 1, none⟩ (.bool b)).heap[gw]? = some (.cells #[ptr g, .bool b] 111 (0, 0)) ∧ Wr base (w.setCell ⟨gw, 1, none⟩ (.bool b)) g gm v xs m ∧ Below base w (w.setCell ⟨gw, 1, none⟩ (.bool b)) ∧ Kw w (w.setCell ⟨gw, 1, none⟩ (.bool b)) gw g gm := by
  have hs : ∀ k, k ≠ gw → (w.setCell ⟨gw, 1, none⟩ (.bool b)).heap[k]? = w.heap[k]? := fun k hk => Below.heap_setCell w _ _ k hk
  obtain ⟨es, c, hm⟩ := Wr.map_blk h
  refine ⟨blk_put hblk 1 _ rfl, ?_, (Below.refl base w).setCell hb _, ⟨by simp [World.setCell], fun k hk a _ _ _ => hs k a⟩⟩
  obtain ⟨n, D, hn, hmm, ht⟩ := h.map
  refine ⟨h.gb, h.mb, (hs g (blk_ne h.blk hblk (by decide))).trans h.blk, own_setCell h.own (own_ne h.own hblk (by decide)) _, ⟨n, D, hn, hmm.setCell ?_ _, ht⟩, h.len⟩
  rintro rfl; rw [hblk] at hm; cases hm
theorem rawLong0 (H : Wr base w g gm v (bytesOf st.S) m) (s : ByteArray) (hl : 4096 < st.S.size + s.size) :
    Calls Try.prog 90 #[ptr g, .string s] w fun e w' => e = .returned (.int .i64 501) ∧ w' = w := by
  have c0 : w.cell? ⟨g, 0, none⟩ = some v := (blk_cell H.blk 0).trans rfl
  have hx := H.len
  rw [bytesOf_length] at hx
  obtain ⟨A, c, rfl⟩ := Sl.own_slice H.own
  rw [bytesOf_length] at c0
  have q : decide (4096 - (st.S.size : Int) < (s.size : Int)) = true := by simp; omega
  go_enter Try.func90, Try.ntmps90
  go_wp2
  go_ret
  exact ⟨rfl, rfl⟩
theorem rawc (H : Ww base w gw g gm st) (s : ByteArray) : Calls Try.prog 59 #[ptr gw, .string s] w fun e w' => e = .returned (.tuple #[]) ∧ Ww base w' gw g gm (rawSt st s) ∧ Below base w w' ∧ Kw w w' gw g gm := by
  have c0 : w.cell? ⟨gw, 0, none⟩ = some (ptr g) := (blk_cell H.blk 0).trans rfl
  obtain ⟨v, h⟩ := H.wr
  have hlen := h.len
  rw [bytesOf_length] at hlen
  by_cases hl : 4096 < st.S.size + s.size
  · have f1 := blk_frozen H.blk 1
    have c1 : w.cell? ⟨gw, 1, none⟩ = some (.bool st.lg) := (blk_cell H.blk 1).trans rfl
    have F := flagged H.gb H.blk h true
    have e : rawSt st s = ⟨st.S, st.m, true⟩ := if_pos hl
    rw [e]
    go_enter Try.func59, Try.ntmps59
    go_wp2_with fail
    refine (rawLong0 h s hl).mono ?_
    rintro e w1 ⟨rfl, rfl⟩
    go_wp2
    refine bodyPost_end (results_none rfl _ _ _) rfl ?_
    exact ⟨rfl, ⟨H.gb, F.1, v, F.2.1⟩, F.2.2.1, F.2.2.2⟩
  · have e : rawSt st s = ⟨st.S ++ s, st.m, st.lg⟩ := if_neg hl
    rw [e]
    go_enter Try.func59, Try.ntmps59
    go_wp2_with fail
    refine (rawOk h s (by omega) (by rw [bytesOf_length]; omega)).mono ?_
    rintro e w1 ⟨rfl, v1, h1, B1, K1⟩
    have b1 := H.box K1
    have c1 : w1.cell? ⟨gw, 1, none⟩ = some (.bool st.lg) := (blk_cell b1 1).trans rfl
    have f1 := blk_frozen b1 1
    have F := flagged H.gb b1 h1 st.lg
    rw [← Pu.bytesOf_append] at F
    go_wp2
    refine bodyPost_end (results_none rfl _ _ _) rfl ?_
    exact ⟨rfl, ⟨H.gb, F.1, v1, F.2.1⟩, B1.trans F.2.2.1, (Kp.kw K1).trans F.2.2.2⟩
set_option maxHeartbeats 2000000 in
theorem namec (H : Ww base w gw g gm st) (n : ByteArray) (t c : Int) : Calls Try.prog 60 #[ptr gw, .string n, .int .i64 t, .int .i64 c] w fun e w' => e = .returned (.tuple #[]) ∧ Ww base w' gw g gm (qSt st n t c) ∧ Below base w w' ∧ Kw w w' gw g gm := by
  have c0 : w.cell? ⟨gw, 0, none⟩ = some (ptr g) := (blk_cell H.blk 0).trans rfl
  have hbase := H.base_le
  go_enter Try.func60, Try.ntmps60
  go_upto_region 0 with (fail)
  go_cut [21] (fun v21 wc => Ww base wc gw g gm (nameSt st n) ∧ Below base w wc ∧ Kw w wc gw g gm)
  case first =>
    obtain ⟨v, h⟩ := H.wr
    have hlen := h.len
    rw [bytesOf_length] at hlen
    cases hn : nameB n with
    | false =>
      have HE := Lib.hid (show nameSt st n = ⟨st.S, st.m, true⟩ from by unfold nameSt; rw [hn]; rfl)
      go_wp2_with fail
      refine (nameNo h n hn).mono ?_
      rintro e w1 ⟨rfl, h1, B1, K1⟩
      have b1 := H.box K1
      have c1 : w1.cell? ⟨gw, 1, none⟩ = some (.bool st.lg) := (blk_cell b1 1).trans rfl
      have f1 := blk_frozen b1 1
      have F := flagged H.gb b1 h1 true
      go_wp2
      go_meet
      case rel => exact ⟨by rw [HE.out]; exact ⟨H.gb, F.1, v, F.2.1⟩, B1.trans F.2.2.1, (Kp.kw K1).trans F.2.2.2⟩
    | true =>
      by_cases hl : 4096 < st.S.size + (outN st.m n).size
      · have HE := Lib.hid (show nameSt st n = ⟨st.S, st.m, true⟩ from by unfold nameSt; rw [hn, if_pos rfl, if_pos hl])
        go_wp2_with fail
        refine (nameYes h n hn).mono ?_
        rintro e w1 hh
        rw [bytesOf_length, if_pos hl] at hh
        obtain ⟨rfl, h1, B1, K1⟩ := hh
        have b1 := H.box K1
        have c1 : w1.cell? ⟨gw, 1, none⟩ = some (.bool st.lg) := (blk_cell b1 1).trans rfl
        have f1 := blk_frozen b1 1
        have F := flagged H.gb b1 h1 true
        go_wp2
        go_meet
        case rel => exact ⟨by rw [HE.out]; exact ⟨H.gb, F.1, v, F.2.1⟩, B1.trans F.2.2.1, (Kp.kw K1).trans F.2.2.2⟩
      · have HE := Lib.hid (show nameSt st n = ⟨st.S ++ outN st.m n, putN st.m n st.S.size, st.lg⟩ from by unfold nameSt; rw [hn, if_pos rfl, if_neg hl])
        go_wp2_with fail
        refine (nameYes h n hn).mono ?_
        rintro e w1 hh
        rw [bytesOf_length, if_neg hl] at hh
        obtain ⟨rfl, v1, h1, B1, K1⟩ := hh
        rw [← Pu.bytesOf_append] at h1
        have b1 := H.box K1
        have c1 : w1.cell? ⟨gw, 1, none⟩ = some (.bool st.lg) := (blk_cell b1 1).trans rfl
        have f1 := blk_frozen b1 1
        have F := flagged H.gb b1 h1 st.lg
        go_wp2
        go_meet
        case rel => exact ⟨by rw [HE.out]; exact ⟨H.gb, F.1, v1, F.2.1⟩, B1.trans F.2.2.1, (Kp.kw K1).trans F.2.2.2⟩
  case rest =>
  obtain ⟨H1, B1, K1⟩ := hcut
  have s1 := Nat.le_trans hbase B1.size
  go_wp2_with fail
  refine (put16 t _).mono ?_
  rintro e w2 ⟨rfl, B2⟩
  have H2 := H1.below B2
  have s2 := B2.size
  go_wp2_with fail
  refine (put16 c _).mono ?_
  rintro e w3 ⟨rfl, B3⟩
  have H3 := H2.below B3
  have z1 := p16_size t
  have z2 := p16_size c
  have n1 : ¬ 9223372036854775807 < (p16 t).size + (p16 c).size := by omega
  go_wp2_with fail
  refine (rawc H3 (p16 t ++ p16 c)).mono ?_
  rintro e w4 ⟨rfl, H4, B4, K4⟩
  go_wp2
  refine bodyPost_end (results_none rfl _ _ _) rfl ?_
  exact ⟨rfl, H4, ((B1.trans (B2.mono s1)).trans (B3.mono (Nat.le_trans s1 s2))).trans B4, ((K1.trans (Kw.below B2)).trans (Kw.below B3)).trans K4⟩
end
end Go.Proofs.Ytjklgdpffmaamaa.Wm

namespace Go.Proofs.Ytjklgdpffmaamaa.Wm
open Go.RowKit Go.PlainAid Go.Maps Go.Proofs.Ytjklgdpffmaamaa.Base Go.Proofs.Ytjklgdpffmaamaa.Oct Go.Proofs.Ytjklgdpffmaamaa.Nm Go.Proofs.Ytjklgdpffmaamaa.Wr
open Go.Proofs.YtjklgdpffmaamaaW.PrintWords (blk_cell blk_below blk_put blk_frozen blk_ne blk_new blk_lt)
set_option linter.unusedVariables false
def qStep (st : St) (q : Qn) : St := qSt st q.name q.type q.cls
def rSt (st : St) (r : Rr) : St := rawSt (qSt st r.name r.type r.cls) (p32 r.ttl ++ p16 (r.data.size : Int) ++ r.data)
def st0 (hS : ByteArray) : St := rawSt ⟨⟨#[]⟩, fun _ => none, false⟩ hS
def putSt (hS : ByteArray) (qs : List Qn) (an ns ar : List Rr) : St := ar.foldl rSt (ns.foldl rSt (an.foldl rSt (qs.foldl qStep (st0 hS))))
def hOk (m : MsgV) : Bool := Hd.mayB m.h m.qs.length m.an.length m.ns.length m.ar.length
def hStr (m : MsgV) : ByteArray := Hd.wroteS m.h m.qs.length m.an.length m.ns.length m.ar.length
def putOk (m : MsgV) : Bool := hOk m && fitsB m.qs m.an m.ns m.ar
def putEnd (m : MsgV) : St := putSt (hStr m) m.qs m.an m.ns m.ar
def putS (m : MsgV) : ByteArray := if putOk m then (if (putEnd m).lg then ⟨#[]⟩ else (putEnd m).S) else ⟨#[]⟩
def putE (m : MsgV) : Int := if putOk m then (if (putEnd m).lg then 701 else 0) else 700
theorem fits_len {qs : List Qn} {an ns ar : List Rr} (h : fitsB qs an ns ar = true) : qs.length ≤ 64 ∧ an.length ≤ 64 ∧ ns.length ≤ 64 ∧ ar.length ≤ 64 := by
  simp only [fitsB, Bool.and_eq_true, decide_eq_true_eq] at h
  obtain ⟨⟨⟨⟨a, _⟩, b, _⟩, c, _⟩, d, _⟩ := h
  exact ⟨a, b, c, d⟩
theorem take_fold {α β : Type} (f : β → α → β) (b : β) (l : List α) (d : α) (j : Nat) (h : j < l.length) : (l.take (j + 1)).foldl f b = f ((l.take j).foldl f b) (l.getD j d) := by
  rw [List.take_succ_eq_append_getElem h, List.foldl_append, List.getD_eq_getElem?_getD, List.getElem?_eq_getElem h]; rfl
set_option maxHeartbeats 16000000 in
set_option maxRecDepth 100000 in
theorem putc (m : MsgV) (w : World) (hm : m.Lies w) : Calls Try.prog 34 #[.agg m.cells] w fun e w' => e = .returned (.tuple #[.string (putS m), .int .i64 (putE m)]) ∧ Below w.heap.size w w' := by
  have hrows := fun p hp => get_rows hm p hp
  have hsa := hm.sa
  have hmq := hm.q
  have hlq := hm.lq
  have hfit := fun b w hb (hl : m.Lies w) => fitsc m b w hb hl
  obtain ⟨M, hM⟩ : ∃ M, m = M := ⟨m, rfl⟩
  have hps : putS m = if hOk m && fitsB m.qs m.an m.ns m.ar then (if (putSt (hStr m) m.qs m.an m.ns m.ar).lg then ⟨#[]⟩ else (putSt (hStr m) m.qs m.an m.ns m.ar).S) else ⟨#[]⟩ := rfl
  have hpe : putE m = if hOk m && fitsB m.qs m.an m.ns m.ar then (if (putSt (hStr m) m.qs m.an m.ns m.ar).lg then 701 else 0) else 700 := rfl
  have hho : hOk m = Hd.mayB m.h m.qs.length m.an.length m.ns.length m.ar.length := rfl
  have hhs : hStr m = Hd.wroteS m.h m.qs.length m.an.length m.ns.length m.ar.length := rfl
  have B1 : Below w.heap.size w (w.alloc (.cells m.cells 27)) := (Below.refl _ _).alloc (Nat.le_refl _) _
  have b1 : (w.alloc (.cells m.cells 27)).heap[w.heap.size]? = some (.cells m.cells 27 (0, 0)) := blk_new _ _
  have L1 := hm.below B1
  have z1 : (w.alloc (.cells m.cells 27)).heap.size = w.heap.size + 1 := by simp
  generalize putS m = pS at *
  generalize putE m = pE at *
  generalize hOk m = pO at *
  generalize hStr m = pH at *
  clear hm
  rcases m with ⟨h, Aq, cq, qs, Aa, ca, an, An, cn, ns, Ar, cr, ar⟩
  have HPS := Lib.hid hps
  have HPE := Lib.hid hpe
  have HL1 := Lib.hid L1
  have HFIT := Lib.hid hfit
  clear hps hpe hM L1 hfit
  dsimp only [MsgV.cells] at *
  go_enter Try.func34, Try.ntmps34
  go_wp2_with fail
  refine (Hd.wrote h qs.length an.length ns.length ar.length _).mono ?_
  generalize (w.alloc (.cells #[.int .i64 h.id, .bool h.qr, .int .i64 h.op, .bool h.aa, .bool h.tc, .bool h.rd, .bool h.ra, .int .i64 h.z, .int .i64 h.rc, .slice Aq qs.length cq, .slice Aa an.length ca, .slice An ns.length cn, .slice Ar ar.length cr] 27)) = w0 at *
  rintro e w1 ⟨rfl, B2⟩
  have b2 := blk_below b1 B2
  have L2 := HL1.out.below B2
  replace B2 := B1.trans (B2.mono (by omega))
  have s2 := B2.size
  have hb0 := blk_lt b2
  rw [← hhs]
  have he : Hd.wroteE h qs.length an.length ns.length ar.length = if pO then 0 else 600 := by unfold Hd.wroteE; rw [hho]
  rw [he]
  clear he hhs hho B1 b1 z1
  cases pO with
  | false =>
    go_wp2_with fail
    go_ret2
    have e1 : pS = ⟨#[]⟩ := HPS.out
    have e2 : pE = 700 := HPE.out
    exact ⟨by rw [e1, e2]; rfl, B2⟩
  | true =>
    go_wp2_with fail
    refine (HFIT.out _ _ b2 L2).mono ?_
    rintro e w2 ⟨rfl, B3⟩
    have b3 := blk_below b2 B3
    have L3 := L2.below B3
    replace B3 := B2.trans (B3.mono s2)
    have s3 := B3.size
    have hb3 := blk_lt b3
    clear L2 b2 B2 s2 hb0 HFIT HL1
    cases hfb : fitsB qs an ns ar with
    | false =>
      have HFB := Lib.hid hfb
      clear hfb
      go_wp2_with fail
      go_ret2
      have e1 : pS = ⟨#[]⟩ := by have := HPS.out; rw [HFB.out] at this; exact this
      have e2 : pE = 700 := by have := HPE.out; rw [HFB.out] at this; exact this
      exact ⟨by rw [e1, e2]; rfl, B3⟩
    | true =>
      have e1 := HPS.out
      have e2 := HPE.out
      rw [hfb] at e1 e2
      have E1 := Lib.hid e1
      have E2 := Lib.hid e2
      clear e1 e2 HPS HPE
      go_wp2_with fail
      refine (newc w2).mono ?_
      rintro e w3 ⟨g, gm, rfl, B4, H4⟩
      go_wp2_with fail
      have Ba : Below w3.heap.size w3 (w3.alloc (.cells #[ptr g, .bool false] 111)) := (Below.refl _ _).alloc (Nat.le_refl _) _
      have W4 : Ww w2.heap.size (w3.alloc (.cells #[ptr g, .bool false] 111)) w3.heap.size g gm ⟨⟨#[]⟩, fun _ => none, false⟩ := ⟨B4.size, blk_new _ _, _, H4.below Ba⟩
      have B5 := B4.trans (Ba.mono B4.size)
      clear H4 Ba B4
      generalize w3.alloc (.cells #[ptr g, .bool false] 111) = w4 at *
      generalize w3.heap.size = gw at *
      refine (rawc W4 pH).mono ?_
      rintro e w5 ⟨rfl, W5, B6, -⟩
      replace B6 := B5.trans B6
      clear W4 B5
      have hmq2 := L3.q
      have hrow2 := fun p hp => get_rows L3 p hp
      dsimp only at hmq2 hrow2
      have c9 : w2.cell? ⟨w.heap.size, 9, none⟩ = some (.slice Aq qs.length cq) := (blk_cell b3 9).trans rfl
      have c10 : w2.cell? ⟨w.heap.size, 10, none⟩ = some (.slice Aa an.length ca) := (blk_cell b3 10).trans rfl
      have c11 : w2.cell? ⟨w.heap.size, 11, none⟩ = some (.slice An ns.length cn) := (blk_cell b3 11).trans rfl
      have c12 : w2.cell? ⟨w.heap.size, 12, none⟩ = some (.slice Ar ar.length cr) := (blk_cell b3 12).trans rfl
      have d9 := bcell B6 c9
      clear hrows hmq L3 b3 hsa
      have hfl := fits_len hfb
      have hql := hfl.1
      have HFL := Lib.hid hfl
      have HFB := Lib.hid hfb
      clear hfb hfl
      go_wp2_with fail
      go_loopg [47] (qs.length + 1) (fun k v47 wr => ∃ j : Nat, v47 = .int .i64 j ∧ j + k = qs.length + 1 ∧ j ≤ qs.length ∧ Ww w2.heap.size wr gw g gm ((qs.take j).foldl qStep (st0 pH)) ∧ Below w2.heap.size w2 wr)
      case atStart => exact ⟨0, rfl, by omega, by omega, W5, B6⟩
      case round =>
        obtain ⟨j, rfl, hk1, hk2, HW, B⟩ := hrel
        have hbs := HW.base_le
        by_cases hj : j < qs.length
        · have q0 : decide ((j : Int) < (qs.length : Int)) = true := by simp; omega
          obtain ⟨ad, eA, hat⟩ : ∃ ad, Aq = some ad ∧ ∀ j, j < qs.length → AtQ w2 (ad.add (j * 3)) (qs.getD j zQ) := by
            rcases hmq2 with h | h
            · omega
            · exact h
          subst eA
          have ha := (hat j hj).below B
          have hfo := take_fold qStep (st0 pH) qs zQ j hj
          generalize qs.getD j zQ = x at *
          have HFO := Lib.hid hfo
          clear hfo hat
          obtain ⟨f0, f1, f2⟩ := ha
          have Ba : Below wr.heap.size wr (wr.alloc (.cells #[.string x.name, .int .i64 x.type, .int .i64 x.cls] 40)) := (Below.refl _ _).alloc (Nat.le_refl _) _
          go_wp2_with fail
          refine (namec (HW.below Ba) x.name x.type x.cls).mono ?_
          rintro e w6 ⟨rfl, HW6, B7, -⟩
          go_wp2_with fail
          go_roundg (gk - 1)
          case measure => omega
          case rel => exact ⟨j + 1, rfl, by omega, by omega, by rw [HFO.out]; exact HW6, (B.trans (Ba.mono hbs)).trans B7⟩
        · have q0 : decide ((j : Int) < (qs.length : Int)) = false := by simp; omega
          have hst : (qs.take j).foldl qStep (st0 pH) = qs.foldl qStep (st0 pH) := by rw [List.take_of_length_le (by omega)]
          rw [hst] at HW
          clear hst
          generalize hs1 : qs.foldl qStep (st0 pH) = st1 at *
          have HS1 := Lib.hid hs1
          clear hs1
          have d10 := bcell B c10
          have d11 := bcell B c11
          have d12 := bcell B c12
          go_wp2_with fail
          clear d10 d11 d12 d9 c9 c10 c11 c12 hmq2
          go_loopg [67] 4 (fun k v67 wr => ∃ p : Nat, v67 = .int .i64 p ∧ p + k = 4 ∧ p ≤ 3 ∧ Ww w2.heap.size wr gw g gm (([an, ns, ar].take p).foldl (fun st l => l.foldl rSt st) st1) ∧ Below w2.heap.size w2 wr)
          case atStart => exact ⟨0, rfl, rfl, by omega, HW, B⟩
          case round =>
            obtain ⟨p, rfl, hp1, hp2, HW, B⟩ := hrel
            by_cases hp : p < 3
            · have q0 : decide ((p : Int) < 3) = true := by simp; omega
              obtain ⟨A, l, c, hix, hcl, hlc, hsm, hl⟩ := hrow2 p hp
              have hfo : ([an, ns, ar].take (p + 1)).foldl (fun st l => l.foldl rSt st) st1 = l.foldl rSt (([an, ns, ar].take p).foldl (fun st l => l.foldl rSt st) st1) := by
                rw [take_fold _ st1 [an, ns, ar] [] p hp, hl]
              have HFO := Lib.hid hfo
              have hll : l.length ≤ 64 := by
                have := HFL.out
                obtain rfl | rfl | rfl : p = 0 ∨ p = 1 ∨ p = 2 := by omega
                · rw [hl]; exact this.2.1
                · rw [hl]; exact this.2.2.1
                · rw [hl]; exact this.2.2.2
              clear hfo hl
              generalize hs2 : ([an, ns, ar].take p).foldl (fun st l => l.foldl rSt st) st1 = st2 at *
              have HS2 := Lib.hid hs2
              clear hs2
              go_wp2_with fail
              go_loopg [72] (l.length + 1) (fun k v72 wr => ∃ j : Nat, v72 = .int .i64 j ∧ j + k = l.length + 1 ∧ j ≤ l.length ∧ Ww w2.heap.size wr gw g gm ((l.take j).foldl rSt st2) ∧ Below w2.heap.size w2 wr)
              case atStart => exact ⟨0, rfl, by omega, by omega, HW, B⟩
              case round =>
                obtain ⟨j, rfl, hj1, hj2, HW, B⟩ := hrel
                have hbs := HW.base_le
                by_cases hj : j < l.length
                · have q2 : decide ((j : Int) < (l.length : Int)) = true := by simp; omega
                  obtain ⟨ad, eA, hat⟩ : ∃ ad, A = some ad ∧ ∀ j, j < l.length → AtR w2 (ad.add (j * 5)) (l.getD j zR) := by
                    rcases hcl with h | h
                    · omega
                    · exact h
                  subst eA
                  have ha := (hat j hj).below B
                  have hmem : l.getD j zR ∈ l := by rw [List.getD_eq_getElem?_getD, List.getElem?_eq_getElem hj]; exact List.getElem_mem hj
                  have hds := hsm _ hmem
                  have hfo := take_fold rSt st2 l zR j hj
                  generalize l.getD j zR = x at *
                  generalize hs3 : (l.take j).foldl rSt st2 = st3 at *
                  have HFO3 := Lib.hid hfo
                  have HS3 := Lib.hid hs3
                  clear hfo hat hs3 hmem
                  obtain ⟨f0, f1, f2, f3, f4⟩ := ha
                  have Ba : Below wr.heap.size wr (wr.alloc (.cells #[.string x.name, .int .i64 x.type, .int .i64 x.cls, .int .i64 x.ttl, .string x.data] 53)) := (Below.refl _ _).alloc (Nat.le_refl _) _
                  have ba := blk_new wr (.cells #[.string x.name, .int .i64 x.type, .int .i64 x.cls, .int .i64 x.ttl, .string x.data] 53)
                  have HWa := HW.below Ba
                  go_wp2_with fail
                  refine (namec HWa x.name x.type x.cls).mono ?_
                  rintro e w6 ⟨rfl, HW6, B7, K7⟩
                  have b6 : w6.heap[wr.heap.size]? = some (.cells #[.string x.name, .int .i64 x.type, .int .i64 x.cls, .int .i64 x.ttl, .string x.data] 53 (0, 0)) := by
                    obtain ⟨v, hv⟩ := HWa.wr
                    obtain ⟨es, c, hmp⟩ := Wr.map_blk hv
                    rw [K7.block _ (blk_lt ba) (blk_ne ba HWa.blk (by decide)) (blk_ne ba hv.blk (by decide)) ?_ ?_]
                    · exact ba
                    · intro q; rw [q, hmp] at ba; cases ba
                    · intro cs q; rw [ba] at q; injection q with q; injection q with _ q; exact absurd q (by decide)
                  have e3 : w6.cell? ⟨wr.heap.size, 3, none⟩ = some (.int .i64 x.ttl) := (blk_cell b6 3).trans rfl
                  have e4 : w6.cell? ⟨wr.heap.size, 4, none⟩ = some (.string x.data) := (blk_cell b6 4).trans rfl
                  have B8 := (B.trans (Ba.mono hbs)).trans B7
                  have s8 := B8.size
                  clear HWa ba Ba K7 B7 HW f0 f1 f2 f3 f4 b6 B hbs
                  have y1 := p32_size x.ttl
                  have y2 := p16_size (x.data.size : Int)
                  have n1 : ¬ 9223372036854775807 < (p32 x.ttl).size + (p16 (x.data.size : Int)).size := by omega
                  have n2 : ¬ 9223372036854775807 < (p32 x.ttl ++ p16 (x.data.size : Int)).size + x.data.size := by rw [ByteArray.size_append]; omega
                  have n3 : ¬ 9223372036854775807 < (p32 x.ttl).size + (p16 (x.data.size : Int)).size + x.data.size := by omega
                  have n4 : ¬ 9223372036854775807 < 4 + 2 + x.data.size := by omega
                  have n5 : ¬ 9223372036854775807 < 6 + x.data.size := by omega
                  have Hd6 := HW6.below (Below.refl _ w6).drew
                  have Bd6 := B8.drew
                  go_upto_region 18 with (fail)
                  go_region_with (first
                    | (go_at_call 61; refine (put32 _ _).mono ?_; rintro e w7 ⟨rfl, B9⟩; have H7 := Hd6.below B9; have g3 := bcell B9 e3; have g4 := bcell B9 e4; have s9 := B9.size)
                    | (go_at_call 62; refine (put16 _ _).mono ?_; rintro e w8 ⟨rfl, B10⟩; have H8 := H7.below B10; have g5 := bcell B10 g3; have g6 := bcell B10 g4)
                    | (go_at_call 59; refine (rawc H8 _).mono ?_; rintro e w9 ⟨rfl, H9, B11, -⟩))
                  all_goals
                    go_wp2_with fail
                    go_roundg (l.length - j)
                    case measure => omega
                    case rel => exact ⟨j + 1, rfl, by omega, by omega, by rw [HFO3.out]; exact H9, ((Bd6.trans (B9.mono s8)).trans (B10.mono (Nat.le_trans s8 s9))).trans B11⟩
                · have q2 : decide ((j : Int) < (l.length : Int)) = false := by simp; omega
                  have hst : (l.take j).foldl rSt st2 = l.foldl rSt st2 := by rw [List.take_of_length_le (by omega)]
                  rw [hst, ← HFO.out] at HW
                  clear hst
                  go_wp2_with fail
                  go_roundg (3 - p)
                  case measure => omega
                  case rel => exact ⟨p + 1, rfl, by omega, by omega, HW, B⟩
            · have q0 : decide ((p : Int) < 3) = false := by simp; omega
              obtain rfl : p = 3 := by omega
              have hst : ([an, ns, ar].take 3).foldl (fun st l => l.foldl rSt st) st1 = putSt pH qs an ns ar := by rw [← HS1.out]; rfl
              rw [hst] at HW
              have HST := Lib.hid hst
              clear hst
              have E1' := E1.out
              have E2' := E2.out
              clear E1 E2
              generalize putSt pH qs an ns ar = st9 at *
              obtain ⟨v, hv⟩ := HW.wr
              have hall := allc hv
              rw [Pu.nums_bytesOf] at hall
              have d0 : wr.cell? ⟨gw, 0, none⟩ = some (ptr g) := (blk_cell HW.blk 0).trans rfl
              have d1 : wr.cell? ⟨gw, 1, none⟩ = some (.bool st9.lg) := (blk_cell HW.blk 1).trans rfl
              have BF := B3.trans (B.mono s3)
              obtain ⟨sS, sm, slg⟩ := st9
              dsimp only at hall d1 E1' E2'
              have E1 := Lib.hid E1'
              have E2 := Lib.hid E2'
              clear E1' E2' HW hv
              cases slg with
              | true =>
                go_wp2_with fail
                go_ret2
                exact ⟨by rw [E1.out, E2.out]; rfl, BF⟩
              | false =>
                go_wp2_with fail
                refine hall.mono ?_
                rintro e w9 ⟨rfl, rfl⟩
                go_wp2_with fail
                go_ret2
                exact ⟨by rw [E1.out, E2.out]; rfl, BF⟩
end Go.Proofs.Ytjklgdpffmaamaa.Wm

namespace Go.Proofs.Ytjklgdpffmaamaa.Wm
open Go.RowKit Go.PlainAid Go.Proofs.Ytjklgdpffmaamaa.Base
open Go.Proofs.YtjklgdpffmaamaaW.PrintWords (ReadsRow add_field)
set_option linter.unusedVariables false
theorem qcells_of {α : Type} (f : α → Qn) {R : α → List Value → Prop} {w : World} {A : Option Addr} {l : List α} (h : ReadsRow R 3 w A l.length l) (hR : ∀ x cs, R x cs → cs = [.string (f x).name, .int .i64 (f x).type, .int .i64 (f x).cls]) : QCells w A (l.map f) := by
  rcases Nat.eq_zero_or_pos l.length with h0 | h0
  · exact .inl (by rw [List.length_map]; exact h0)
  · obtain ⟨ad, e, hc⟩ := h.2.2 h0
    refine .inr ⟨ad, e, fun j hj => ?_⟩
    rw [List.length_map] at hj
    obtain ⟨c, _, hr, hcell⟩ := hc j _ (List.getElem?_eq_getElem hj)
    obtain rfl := hR _ _ hr
    have eg : (l.map f).getD j zQ = f l[j] := by rw [List.getD_eq_getElem?_getD, List.getElem?_map, List.getElem?_eq_getElem hj]; rfl
    rw [eg]
    exact ⟨hcell 0 _ rfl, by rw [← add_field _ _ 1 (by omega)]; exact hcell 1 _ rfl, by rw [← add_field _ _ 2 (by omega)]; exact hcell 2 _ rfl⟩
theorem rcells_of {α : Type} (f : α → Rr) {R : α → List Value → Prop} {w : World} {A : Option Addr} {l : List α} (h : ReadsRow R 5 w A l.length l) (hR : ∀ x cs, R x cs → cs = [.string (f x).name, .int .i64 (f x).type, .int .i64 (f x).cls, .int .i64 (f x).ttl, .string (f x).data]) : RCells w A (l.map f) := by
  rcases Nat.eq_zero_or_pos l.length with h0 | h0
  · exact .inl (by rw [List.length_map]; exact h0)
  · obtain ⟨ad, e, hc⟩ := h.2.2 h0
    refine .inr ⟨ad, e, fun j hj => ?_⟩
    rw [List.length_map] at hj
    obtain ⟨c, _, hr, hcell⟩ := hc j _ (List.getElem?_eq_getElem hj)
    obtain rfl := hR _ _ hr
    have eg : (l.map f).getD j zR = f l[j] := by rw [List.getD_eq_getElem?_getD, List.getElem?_map, List.getElem?_eq_getElem hj]; rfl
    rw [eg]
    exact ⟨hcell 0 _ rfl, by rw [← add_field _ _ 1 (by omega)]; exact hcell 1 _ rfl, by rw [← add_field _ _ 2 (by omega)]; exact hcell 2 _ rfl, by rw [← add_field _ _ 3 (by omega)]; exact hcell 3 _ rfl, by rw [← add_field _ _ 4 (by omega)]; exact hcell 4 _ rfl⟩
def smallB (rs : List Rr) : Bool := rs.all fun r => decide (r.data.size ≤ 9223372036854775000)
theorem small_of {rs : List Rr} (h : smallB rs = true) : small rs := by
  intro r hr
  have := List.all_eq_true.1 h r hr
  simpa using this
/-- A message without its places. -/
def msgOf (h : Hd.Head) (qs : List Qn) (an ns ar : List Rr) : MsgV := ⟨h, none, 0, qs, none, 0, an, none, 0, ns, none, 0, ar⟩
end Go.Proofs.Ytjklgdpffmaamaa.Wm

namespace Go.Proofs.Ytjklgdpffmaamaa.PCm
open Go.RowKit Go.Proofs.YtjklgdpffmaamaaW.PrintWords Go.Proofs.YtjklgdpffmaamaaW.PrintLast Go.Proofs.YtjklgdpffmaamaaW.PrintMore
attribute [local go_sem] max2_int min2_int max_two min_two max_three min_three max_four min_four   -- for this text's walks alone
set_option linter.unusedVariables false
set_option linter.unusedSimpArgs false

def errW : Option Int → Value
  | none => .nilIface
  | some c => .iface 0 (.int .i64 c)
theorem errW_none : errW none = .nilIface := rfl
theorem errW_some (c : Int) : errW (some c) = .iface 0 (.int .i64 c) := rfl

-- the values' own types

end Go.Proofs.Ytjklgdpffmaamaa.PCm

namespace Go.Proofs.Ytjklgdpffmaamaa.PCm
open Go.RowKit Go.Proofs.YtjklgdpffmaamaaW.PrintWords Go.Proofs.YtjklgdpffmaamaaW.PrintLast Go.Proofs.YtjklgdpffmaamaaW.PrintMore
attribute [local go_sem] max2_int min2_int max_two min_two max_three min_three max_four min_four   -- for this text's walks alone
set_option linter.unusedVariables false
set_option linter.unusedSimpArgs false

/-! ### comp_Name: function 94 -/
mutual
def comp_Name.l0 : Nat → ByteArray → Int → List Int → Int → Int → Option (ByteArray × Int × Int)
  | 0, _, _, _, _, _ => none
  | k + 1, x0, x1, x7, x8, x9 => if x1 < (x0.size : Int) then (comp_Name.j1 k x0 x1 x7 x8 x9 (decide ((x7.length : Int) < 255))) else (comp_Name.j1 k x0 x1 x7 x8 x9 false)
def comp_Name.j1 : Nat → ByteArray → Int → List Int → Int → Int → Bool → Option (ByteArray × Int × Int)
  | 0, _, _, _, _, _, _ => none
  | k + 1, x0, x1, x7, x8, x9, x23 => if x23 = true then (if 0 ≤ x1 then (if x1 < (x0.size : Int) then (if (wrap64 (bt x0 x1)) = 0 then (if x9 < 0 then (if x7.length < 140737488355328 then (some (strOfNums (x7 ++ [0]), wrap64 (x1 + 1), 0)) else (none)) else (if x7.length < 140737488355328 then (some (strOfNums (x7 ++ [0]), x9, 0)) else (none))) else (if (wrap64 (bt x0 x1)) ≤ 63 then (comp_Name.j2 k x0 x1 x7 x8 x9 (wrap64 (bt x0 x1)) (decide ((wrap64 (bt x0 x1)) < (wrap64 ((x0.size : Int) - x1))))) else (comp_Name.j2 k x0 x1 x7 x8 x9 (wrap64 (bt x0 x1)) false))) else (none)) else (none)) else (some ((⟨#[]⟩ : ByteArray), 0, 500))
def comp_Name.j2 : Nat → ByteArray → Int → List Int → Int → Int → Int → Bool → Option (ByteArray × Int × Int)
  | 0, _, _, _, _, _, _, _ => none
  | k + 1, x0, x1, x7, x8, x9, x10, x40 => if x40 = true then (if 0 ≤ x1 then (if x1 ≤ (wrap64 ((wrap64 (x1 + 1)) + x10)) then (if (wrap64 ((wrap64 (x1 + 1)) + x10)) ≤ (x0.size : Int) then (if x7.length + (x0.extract (x1 : Int).toNat ((wrap64 ((wrap64 (x1 + 1)) + x10)) : Int).toNat).size < 140737488355328 then (comp_Name.l0 k x0 (wrap64 (x1 + (wrap64 (1 + x10)))) (x7 ++ bytesOf (x0.extract (x1 : Int).toNat ((wrap64 ((wrap64 (x1 + 1)) + x10)) : Int).toNat)) x8 x9) else (none)) else (none)) else (none)) else (none)) else (if x10 ≥ 192 then (comp_Name.j3 k x0 x1 x7 x8 x9 x10 (decide ((wrap64 (x1 + 1)) < (x0.size : Int)))) else (comp_Name.j3 k x0 x1 x7 x8 x9 x10 false))
def comp_Name.j3 : Nat → ByteArray → Int → List Int → Int → Int → Int → Bool → Option (ByteArray × Int × Int)
  | 0, _, _, _, _, _, _, _ => none
  | k + 1, x0, x1, x7, x8, x9, x10, x64 => if x64 = true then (if 0 ≤ (wrap64 (x1 + 1)) then (if (wrap64 (x1 + 1)) < (x0.size : Int) then (if (Go.bits .or .i64 (wrap64 ((Go.bits .and .i64 x10 63) * 256)) (wrap64 (bt x0 (wrap64 (x1 + 1))))) ≥ x8 then (some ((⟨#[]⟩ : ByteArray), 0, 500)) else (if x9 < 0 then (comp_Name.l0 k x0 (Go.bits .or .i64 (wrap64 ((Go.bits .and .i64 x10 63) * 256)) (wrap64 (bt x0 (wrap64 (x1 + 1))))) x7 (Go.bits .or .i64 (wrap64 ((Go.bits .and .i64 x10 63) * 256)) (wrap64 (bt x0 (wrap64 (x1 + 1))))) (wrap64 (x1 + 2))) else (comp_Name.l0 k x0 (Go.bits .or .i64 (wrap64 ((Go.bits .and .i64 x10 63) * 256)) (wrap64 (bt x0 (wrap64 (x1 + 1))))) x7 (Go.bits .or .i64 (wrap64 ((Go.bits .and .i64 x10 63) * 256)) (wrap64 (bt x0 (wrap64 (x1 + 1))))) x9))) else (none)) else (none)) else (some ((⟨#[]⟩ : ByteArray), 0, 500))
end
def comp_Name.f (k : Nat) (a0 : ByteArray) (a1 : Int) : Option (ByteArray × Int × Int) := if a1 < 0 then (some ((⟨#[]⟩ : ByteArray), 0, 500)) else (comp_Name.l0 k a0 a1 ([] : List Int) a1 (-1))
-- NOT PRINTED: function 72 (name_Places)

end Go.Proofs.Ytjklgdpffmaamaa.PCm

namespace Go.Proofs.Ytjklgdpffmaamaa.PCm
open Go.RowKit Go.Proofs.YtjklgdpffmaamaaW.PrintWords Go.Proofs.YtjklgdpffmaamaaW.PrintLast Go.Proofs.YtjklgdpffmaamaaW.PrintMore
attribute [local go_sem] max2_int min2_int max_two min_two max_three min_three max_four min_four   -- for this text's walks alone
set_option linter.unusedVariables false
set_option linter.unusedSimpArgs false

/-! ### rdata_May: function 102 -/
def rdata_May.f (a0 : Int) (a1 : ByteArray) : Option (Bool) := if a1.size ≤ 9223372036854775000 then some (Go.Proofs.Ytjklgdpffmaamaa.Rd.mayD a0 a1) else none
/-! ### comp_shape: function 104 -/
def comp_shape.j0 : Nat → Int → Bool → Option (Int × Int × Int)
  | 0, _, _ => none
  | k + 1, x5, x6 => if x6 = true then (some (0, 1, 0)) else (if x5 = 15 then (some (2, 1, 0)) else (if x5 = 6 then (some (0, 2, 20)) else (some (0, 0, 0))))
def comp_shape.f (k : Nat) (a0 : Int) : Option (Int × Int × Int) := if a0 = 2 then (comp_shape.j0 k a0 (a0 == 2)) else (if a0 = 5 then (comp_shape.j0 k a0 (a0 == 5)) else (comp_shape.j0 k a0 (a0 == 12)))
theorem comp_shape.mono_l : ∀ k, (∀ y0 y1, LeO (comp_shape.j0 k y0 y1) (comp_shape.j0 (k + 1) y0 y1))
  | 0 => fun _ _ r h => by simp [comp_shape.j0] at h
  | k + 1 => by
    have ih0 := comp_shape.mono_l k
    · intro y0 y1
      unfold comp_shape.j0
      repeat' first
      | (with_reducible exact ih0 _ _)
      | (with_reducible exact LeO.refl _)
      | (with_reducible exact LeO.none _)
      | (with_reducible refine LeO.ite ?_ ?_)
      | (with_reducible refine LeO.bind ?_ (fun _ => ?_))
      | exact ih0 _ _
      | exact LeO.none _
      | refine LeO.ite ?_ ?_
      | refine LeO.bind ?_ (fun _ => ?_)
theorem comp_shape.mono : ∀ a0 k, LeO (comp_shape.f k a0) (comp_shape.f (k + 1) a0) := by
  intro a0 k
  have ih0 := comp_shape.mono_l k
  unfold comp_shape.f
  repeat' first
      | (with_reducible exact ih0 _ _)
      | (with_reducible exact LeO.refl _)
      | (with_reducible exact LeO.none _)
      | (with_reducible refine LeO.ite ?_ ?_)
      | (with_reducible refine LeO.bind ?_ (fun _ => ?_))
      | exact ih0 _ _
      | exact LeO.none _
      | refine LeO.ite ?_ ?_
      | refine LeO.bind ?_ (fun _ => ?_)
/-! ### comp_names: function 105 -/
def comp_names.l0 : Nat → ByteArray → Int → ByteArray → Int → Int → Option (ByteArray × Int × Int)
  | 0, _, _, _, _, _ => none
  | k + 1, x0, x1, x9, x13, x14 => if x14 < x13 then ((comp_Name.f k x0 x1).bind fun bt113 => (if bt113.2.2 = 0 then (if x9.size + bt113.1.size ≤ 9223372036854775807 then (comp_names.l0 k x0 bt113.2.1 (x9 ++ bt113.1) x13 (wrap64 (x14 + 1))) else (none)) else (some ((⟨#[]⟩ : ByteArray), 0, bt113.2.2)))) else (some (x9, x1, 0))
def comp_names.f (k : Nat) (a0 : ByteArray) (a1 : Int) (a2 : Int) : Option (ByteArray × Int × Int) := comp_names.l0 k a0 a1 (⟨#[]⟩ : ByteArray) a2 0
/-! ### comp_Data: function 97 -/
mutual
def comp_Data.j0 : Nat → ByteArray → Int → Int → Int → Bool → Option (ByteArray × Int)
  | 0, _, _, _, _, _ => none
  | k + 1, x0, x1, x2, x3, x37 => if x37 = true then (some ((⟨#[]⟩ : ByteArray), 500)) else (if 0 ≤ x1 then (if x1 ≤ (wrap64 (x1 + x2)) then (if (wrap64 (x1 + x2)) ≤ (x0.size : Int) then ((comp_shape.f k x3).bind fun bt116 => (if bt116.2.1 > 0 then (if x2 < (wrap64 (bt116.1 + bt116.2.2)) then (some ((⟨#[]⟩ : ByteArray), 500)) else ((comp_names.f k x0 (wrap64 (x1 + bt116.1)) bt116.2.1).bind fun bt119 => (if bt119.2.2 = 0 then (comp_Data.j1 k x0 x1 x3 (wrap64 (x1 + x2)) bt116.1 bt119.1 bt119.2.1 (bt119.2.1 != (wrap64 ((wrap64 (x1 + x2)) - bt116.2.2)))) else (comp_Data.j1 k x0 x1 x3 (wrap64 (x1 + x2)) bt116.1 bt119.1 bt119.2.1 true)))) else ((rdata_May.f x3 (x0.extract (x1 : Int).toNat ((wrap64 (x1 + x2)) : Int).toNat)).bind fun t123 => (if t123 = true then (some (x0.extract (x1 : Int).toNat ((wrap64 (x1 + x2)) : Int).toNat, 0)) else (some ((⟨#[]⟩ : ByteArray), 500)))))) else (none)) else (none)) else (none))
def comp_Data.j1 : Nat → ByteArray → Int → Int → Int → Int → ByteArray → Int → Bool → Option (ByteArray × Int)
  | 0, _, _, _, _, _, _, _, _ => none
  | k + 1, x0, x1, x3, x10, x12, x15, x16, x76 => if x76 = true then (some ((⟨#[]⟩ : ByteArray), 500)) else (if 0 ≤ x1 then (if x1 ≤ (wrap64 (x1 + x12)) then (if (wrap64 (x1 + x12)) ≤ (x0.size : Int) then (if (x0.extract (x1 : Int).toNat ((wrap64 (x1 + x12)) : Int).toNat).size + x15.size ≤ 9223372036854775807 then (if 0 ≤ x16 then (if x16 ≤ x10 then (if x10 ≤ (x0.size : Int) then (if ((x0.extract (x1 : Int).toNat ((wrap64 (x1 + x12)) : Int).toNat) ++ x15).size + (x0.extract (x16 : Int).toNat (x10 : Int).toNat).size ≤ 9223372036854775807 then ((rdata_May.f x3 (((x0.extract (x1 : Int).toNat ((wrap64 (x1 + x12)) : Int).toNat) ++ x15) ++ (x0.extract (x16 : Int).toNat (x10 : Int).toNat))).bind fun t122 => (if t122 = true then (some (((x0.extract (x1 : Int).toNat ((wrap64 (x1 + x12)) : Int).toNat) ++ x15) ++ (x0.extract (x16 : Int).toNat (x10 : Int).toNat), 0)) else (some ((⟨#[]⟩ : ByteArray), 500)))) else (none)) else (none)) else (none)) else (none)) else (none)) else (none)) else (none)) else (none))
end
def comp_Data.f (k : Nat) (a0 : ByteArray) (a1 : Int) (a2 : Int) (a3 : Int) : Option (ByteArray × Int) := if a1 < 0 then (comp_Data.j0 k a0 a1 a2 a3 true) else (if a2 < 0 then (comp_Data.j0 k a0 a1 a2 a3 true) else (if a1 > (a0.size : Int) then (comp_Data.j0 k a0 a1 a2 a3 true) else (comp_Data.j0 k a0 a1 a2 a3 (decide (a2 > (wrap64 ((a0.size : Int) - a1)))))))
end Go.Proofs.Ytjklgdpffmaamaa.PCm

namespace Go.Proofs.Ytjklgdpffmaamaa.Wm
open Go.RowKit Go.PlainAid Go.Maps Go.Proofs.Ytjklgdpffmaamaa.Base Go.Proofs.Ytjklgdpffmaamaa.Oct Go.Proofs.Ytjklgdpffmaamaa.Nm
open Go.Proofs.YtjklgdpffmaamaaW.PrintWords (blk_cell blk_below blk_put blk_frozen blk_ne blk_new blk_lt blk_grown LeO)
set_option linter.unusedVariables false
/-- Where the reader stands, whether something was bad. -/
structure Rs where
  at_ : Int
  bad : Bool
def u16V (s : ByteArray) (i : Int) : Int × Int × Int := if 0 ≤ i ∧ i + 2 ≤ s.size then (be2 s i.toNat, i + 2, 0) else (0, 0, 300)
def u32V (s : ByteArray) (i : Int) : Int × Int × Int := if 0 ≤ i ∧ i + 4 ≤ s.size then (be4 s i.toNat, i + 4, 0) else (0, 0, 300)
def numV (r : Rs) (x : Int × Int × Int) : Int × Rs := if r.bad || x.2.2 != 0 then (0, ⟨r.at_, true⟩) else (x.1, ⟨x.2.1, false⟩)
structure RdAt (w : World) (g : Nat) (s : ByteArray) (r : Rs) : Prop where
  blk : w.heap[g]? = some (.cells #[.string s, .int .i64 r.at_, .bool r.bad] 120 (0, 0))
section
variable {w w1 w' : World} {g : Nat} {s : ByteArray} {r : Rs}
theorem RdAt.below (h : RdAt w g s r) (hb : Below w.heap.size w w') : RdAt w' g s r := ⟨blk_below h.blk hb⟩
theorem grown_below (hb : Below w.heap.size w w') (row : Option Nat) : w.grownBy w' row := ⟨hb.os, hb.tape, hb.output, hb.size, fun k hk _ => hb.block k hk⟩
theorem grown_set (w : World) (g i : Nat) (v : Value) : w.grownBy (w.setCell ⟨g, i, none⟩ v) (some g) := ⟨rfl, rfl, rfl, by simp [World.setCell], fun k hk h => Below.heap_setCell w _ _ k (by rintro rfl; exact h rfl)⟩
theorem grown_far {w W : World} {row : Option Nat} (h : w.grownBy W row) {p : Addr} (hp : w.heap.size ≤ p.block) (v : Value) : w.grownBy (W.setCell p v) row :=
  ⟨h.os, h.tape, h.output, by simpa [World.setCell] using h.size, fun k hk hne => (Below.heap_setCell W p v k (by omega)).trans (h.block k hk hne)⟩
theorem grown_set' {w W : World} {g : Nat} (h : w.grownBy W (some g)) (i : Nat) (v : Value) : w.grownBy (W.setCell ⟨g, i, none⟩ v) (some g) := h.trans (grown_set W g i v)
theorem grown_alloc' {w W : World} {row : Option Nat} (h : w.grownBy W row) (o : Obj) : w.grownBy (W.alloc o) row := h.trans (World.grownBy_alloc W _ _)
theorem blk_set_ne {w : World} {g : Nat} {o : Obj} {p : Addr} (h : w.heap[g]? = some o) (hne : g ≠ p.block) (v : Value) : (w.setCell p v).heap[g]? = some o := (Below.heap_setCell w p v g hne).trans h
end
/-- A question that is read. -/
def questV (k : Nat) (s : ByteArray) (r : Rs) : Option (Qn × Rs) :=
  (PCm.comp_Name.f k s r.at_).bind fun x => if r.bad || x.2.2 != 0 then some (zQ, ⟨r.at_, true⟩) else
    some (⟨x.1, (numV ⟨x.2.1, false⟩ (u16V s x.2.1)).1, (numV (numV ⟨x.2.1, false⟩ (u16V s x.2.1)).2 (u16V s (numV ⟨x.2.1, false⟩ (u16V s x.2.1)).2.at_)).1⟩,
      ⟨(numV (numV ⟨x.2.1, false⟩ (u16V s x.2.1)).2 (u16V s (numV ⟨x.2.1, false⟩ (u16V s x.2.1)).2.at_)).2.at_, (numV (numV ⟨x.2.1, false⟩ (u16V s x.2.1)).2 (u16V s (numV ⟨x.2.1, false⟩ (u16V s x.2.1)).2.at_)).2.bad || (numV ⟨x.2.1, false⟩ (u16V s x.2.1)).1 == 0⟩)
section
variable {w w1 w' : World} {g : Nat} {s : ByteArray} {r : Rs}
end
end Go.Proofs.Ytjklgdpffmaamaa.Wm

namespace Go.Proofs.Ytjklgdpffmaamaa.Wm
open Go.RowKit Go.PlainAid Go.Maps Go.Proofs.Ytjklgdpffmaamaa.Base Go.Proofs.Ytjklgdpffmaamaa.Oct Go.Proofs.Ytjklgdpffmaamaa.Nm
open Go.Proofs.YtjklgdpffmaamaaW.PrintWords (blk_cell blk_below blk_put blk_frozen blk_ne blk_new blk_lt blk_grown LeO)
set_option linter.unusedVariables false
def recN1 (s : ByteArray) (x : Qn × Rs) : Int × Rs := numV x.2 (u32V s x.2.at_)
def recN2 (s : ByteArray) (x : Qn × Rs) : Int × Rs := numV (recN1 s x).2 (u16V s (recN1 s x).2.at_)
/-- A record that is read. -/
def recV (k : Nat) (s : ByteArray) (r : Rs) : Option (Rr × Rs) :=
  (questV k s r).bind fun x => (PCm.comp_Data.f k s (recN2 s x).2.at_ (recN2 s x).1 x.1.type).bind fun y =>
    if (recN2 s x).2.bad || y.2 != 0 then some (zR, ⟨(recN2 s x).2.at_, true⟩) else some (⟨x.1.name, x.1.type, x.1.cls, (recN1 s x).1, y.1⟩, ⟨wrap64 ((recN2 s x).2.at_ + (recN2 s x).1), false⟩)
section
variable {w w1 w' : World} {g : Nat} {s : ByteArray} {r : Rs}
end
end Go.Proofs.Ytjklgdpffmaamaa.Wm

namespace Go.Proofs.Ytjklgdpffmaamaa.Wm
open Go.RowKit Go.PlainAid Go.Maps Go.Proofs.Ytjklgdpffmaamaa.Base Go.Proofs.Ytjklgdpffmaamaa.Oct Go.Proofs.Ytjklgdpffmaamaa.Nm
open Go.Proofs.YtjklgdpffmaamaaW.PrintWords (blk_cell blk_below blk_put blk_frozen blk_ne blk_new blk_lt blk_grown LeO own_nil own_ne own_other own_setCell)
set_option linter.unusedVariables false
section
variable {P : Program} {ops : Array Oper} {rest : List Oper} {o : Oper} {a : Act} {Q : Exit → Act → World → Prop}
/-- append(v, x), x an element of the cells cs, which lies in the variadic's own block: what has grown. -/
theorem app_elem {W : World} (base : Nat) (hgd : o.guard = none) (s x : Operand) (t e : TypeId) (z : Value) (size bytes : Nat)
    (ho : o.op = .call { callee := .builtin .append, args := #[s, x], argTypes := #[t, t] })
    (ht : P.underlying t = some (.slice e)) (hinfo : (P.info? e).map (fun i => (i.zero, i.size, i.bytes)) = some (some z, size, bytes)) (hz : z.cells.size = size) (hsz : 0 < size)
    {v : Value} {n : Nat} {xs : List Value} (HO : W.ownsRow base e size v n xs) (cs : Array Value) (hs : a.eval s = v) (hx : a.eval x = .slice (some ⟨W.heap.size, 0, none⟩) 1 1)
    (hc : cs.size = size) (h1 : ∀ u ∈ cs.toList, u.oneCell' = true) (hbase : base ≤ W.heap.size) (hn : n + 1 ≤ 140737488355328) (hl : (n + 1) * bytes ≤ 140737488355328)
    (h : ∀ v1 w1, w1.ownsRow base e size v1 (n + 1) (xs ++ cs.toList) → (W.alloc (.cells cs e)).grownBy w1 v.ownBlock → wpList P ops Q rest (a.put o.dst v1) w1) :
    wpList P ops Q (o :: rest) a (W.alloc (.cells cs e)) := by
  obtain ⟨i0, hi, hzz⟩ := Option.map_eq_some_iff.1 hinfo
  simp only [Prod.mk.injEq] at hzz
  obtain ⟨hz0, hz1, hz2⟩ := hzz
  refine wpList_append_own (W.alloc (.cells cs e)) hgd s x t ho base e i0 z size bytes ht hi hz0 hz1 hz2 hz hsz v n xs hs (HO.alloc _) ⟨W.heap.size, 0, none⟩ 1 1 cs.toList hx (by simp [hc])
    (World.news_of_block (cs := cs) (t := e) (fr := (0, 0)) (heap_alloc_new W _)) h1 (by simp only [maxLen]; omega) hl (by simp; omega) ?_
  intro v1 w1 hown hg _
  exact h v1 w1 hown hg
end
theorem grown_own {w W w1 : World} {g : Nat} {row : Option Nat} (h : w.grownBy W (some g)) (k : W.grownBy w1 row) (hr : ∀ b, row = some b → w.heap.size ≤ b) : w.grownBy w1 (some g) :=
  ⟨k.os.trans h.os, k.tape.trans h.tape, k.output.trans h.output, Nat.le_trans h.size k.size, fun i hi hne => (k.block i (Nat.lt_of_lt_of_le hi h.size) (fun e => by have := hr i e.symm; omega)).trans (h.block i hi hne)⟩

theorem info_Q : (Try.prog.info? 40).map (fun i => (i.zero, i.size, i.bytes)) = some (some (.agg #[.string ⟨#[]⟩, .int .i64 0, .int .i64 0]), 3, 32) := by kernel_rfl
abbrev cellQ (q : Qn) : Array Value := #[.string q.name, .int .i64 q.type, .int .i64 q.cls]
def cellsQ : List Qn → List Value
  | [] => []
  | q :: qs => (cellQ q).toList ++ cellsQ qs
theorem cellsQ_app (a b : List Qn) : cellsQ (a ++ b) = cellsQ a ++ cellsQ b := by
  induction a with
  | nil => rfl
  | cons p a ih => simp [cellsQ, ih]
def loopQ (k : Nat) (s : ByteArray) : Nat → Rs → List Qn → Option (List Qn × Rs)
  | 0, r, acc => some (acc, r)
  | n + 1, r, acc => if r.bad then some (acc, r) else (questV k s r).bind fun x => loopQ k s n x.2 (acc ++ [x.1])
/-- So many that are read. -/
def listQ (k : Nat) (s : ByteArray) (n : Nat) (r : Rs) : Option (List Qn × Rs) := loopQ k s n ⟨r.at_, r.bad || decide (64 < n)⟩ []
section
variable {w : World} {g : Nat} {s : ByteArray} {r : Rs}
end

theorem info_R : (Try.prog.info? 53).map (fun i => (i.zero, i.size, i.bytes)) = some (some (.agg #[.string ⟨#[]⟩, .int .i64 0, .int .i64 0, .int .i64 0, .string ⟨#[]⟩]), 5, 56) := by kernel_rfl
abbrev cellR (q : Rr) : Array Value := #[.string q.name, .int .i64 q.type, .int .i64 q.cls, .int .i64 q.ttl, .string q.data]
def cellsR : List Rr → List Value
  | [] => []
  | q :: qs => (cellR q).toList ++ cellsR qs
theorem cellsR_app (a b : List Rr) : cellsR (a ++ b) = cellsR a ++ cellsR b := by
  induction a with
  | nil => rfl
  | cons p a ih => simp [cellsR, ih]
def loopR (k : Nat) (s : ByteArray) : Nat → Rs → List Rr → Option (List Rr × Rs)
  | 0, r, acc => some (acc, r)
  | n + 1, r, acc => if r.bad then some (acc, r) else (recV k s r).bind fun x => loopR k s n x.2 (acc ++ [x.1])
/-- So many that are read. -/
def listR (k : Nat) (s : ByteArray) (n : Nat) (r : Rs) : Option (List Rr × Rs) := loopR k s n ⟨r.at_, r.bad || decide (64 < n)⟩ []
section
variable {w : World} {g : Nat} {s : ByteArray} {r : Rs}
end
end Go.Proofs.Ytjklgdpffmaamaa.Wm

namespace Go.Proofs.Ytjklgdpffmaamaa.CompS
open Go.RowKit Go.Proofs.Ytjklgdpffmaamaa.PCm Go.Proofs.YtjklgdpffmaamaaW.PrintWords Go.Proofs.Ytjklgdpffmaamaa.Pu
set_option linter.unusedVariables false
abbrev err : ByteArray × Int × Int := ((⟨#[]⟩ : ByteArray), 0, 500)
theorem f_at {s : ByteArray} {i : Nat} {r : ByteArray × Int × Int} (h : Ev (fun k => comp_Name.l0 k s (i : Int) [] (i : Int) (-1)) r) : Ev (fun k => comp_Name.f k s (i : Int)) r := Ev.neg (by omega) h
theorem l_end {s : ByteArray} {i : Int} {out : List Int} {bg bh : Int} (h : (s.size : Int) ≤ i) : Ev (fun k => comp_Name.l0 k s i out bg bh) err := by
  refine Ev.step (fun k => by rw [comp_Name.l0]) (Ev.neg (by omega) ?_)
  exact Ev.step (fun k => by rw [comp_Name.j1]) (Ev.neg (by simp) (Ev.some _ fun _ => rfl))
theorem l_go {s : ByteArray} {i : Int} {out : List Int} {bg bh b : Int} {r : ByteArray × Int × Int} (h0 : 0 ≤ i) (h : i < (s.size : Int)) (ho : out.length < 255) (hb : bt s i = b) (hz : b ≠ 0)
    (h1 : b ≤ 63 → Ev (fun k => comp_Name.j2 k s i out bg bh b (decide (b < wrap64 ((s.size : Int) - i)))) r) (h2 : 63 < b → Ev (fun k => comp_Name.j2 k s i out bg bh b false) r) : Ev (fun k => comp_Name.l0 k s i out bg bh) r := by
  have hr := bt_range s i
  rw [hb] at hr
  refine Ev.step (fun k => by rw [comp_Name.l0]) (Ev.pos h ?_)
  rw [decide_eq_true (show (out.length : Int) < 255 by omega)]
  refine Ev.step (fun k => by rw [comp_Name.j1]) (Ev.pos rfl (Ev.pos h0 (Ev.pos h ?_)))
  rw [hb, w64 (x := b) (by omega) (by omega)]
  refine Ev.neg hz ?_
  by_cases hc : b ≤ 63
  · exact Ev.pos hc (h1 hc)
  · exact Ev.neg hc (h2 (by omega))
theorem l_lab {s : ByteArray} {i : Int} {out : List Int} {bg bh b : Int} {r : ByteArray × Int × Int} (hs : s.size ≤ 1000000) (h0 : 0 ≤ i) (ho : out.length < 255) (hb : bt s i = b) (hz : b ≠ 0) (h63 : b ≤ 63) (hf : b < (s.size : Int) - i)
    (h : Ev (fun k => comp_Name.l0 k s (i + 1 + b) (out ++ bytesOf (s.extract i.toNat (i + 1 + b).toNat)) bg bh) r) : Ev (fun k => comp_Name.l0 k s i out bg bh) r := by
  have hr := bt_range s i
  rw [hb] at hr
  refine l_go h0 (by omega) ho hb hz (fun _ => ?_) (fun h => by omega)
  rw [w64 (x := (s.size : Int) - i) (by omega) (by omega), decide_eq_true hf]
  refine Ev.step (fun k => by rw [comp_Name.j2]) (Ev.pos rfl ?_)
  rw [w64 (x := i + 1) (by omega) (by omega), w64 (x := i + 1 + b) (by omega) (by omega), w64 (x := 1 + b) (by omega) (by omega), w64 (x := i + (1 + b)) (by omega) (by omega), show i + (1 + b) = i + 1 + b by omega]
  refine Ev.pos (by omega) (Ev.pos (by omega) (Ev.pos (by omega) (Ev.pos ?_ h)))
  rw [ByteArray.size_extract]; omega
theorem l_bad {s : ByteArray} {i : Int} {out : List Int} {bg bh b : Int} (hs : s.size ≤ 1000000) (h0 : 0 ≤ i) (h : i < (s.size : Int)) (ho : out.length < 255) (hb : bt s i = b) (h64 : 64 ≤ b) (hn : b < 192 ∨ (s.size : Int) ≤ i + 1) : Ev (fun k => comp_Name.l0 k s i out bg bh) err := by
  refine l_go h0 h ho hb (by omega) (fun h => by omega) (fun _ => ?_)
  refine Ev.step (fun k => by rw [comp_Name.j2]) (Ev.neg (by simp) ?_)
  by_cases hc : b ≥ 192
  · refine Ev.pos hc ?_
    rw [w64 (x := i + 1) (by omega) (by omega), decide_eq_false (show ¬ i + 1 < (s.size : Int) by omega)]
    exact Ev.step (fun k => by rw [comp_Name.j3]) (Ev.neg (by simp) (Ev.some _ fun _ => rfl))
  · exact Ev.neg hc (Ev.step (fun k => by rw [comp_Name.j3]) (Ev.neg (by simp) (Ev.some _ fun _ => rfl)))
/-- Where a pointer leads. -/
theorem to_eq {b c : Int} (hb : 192 ≤ b) (hb2 : b ≤ 255) (hc : 0 ≤ c) (hc2 : c ≤ 255) : Go.bits .or .i64 (wrap64 ((Go.bits .and .i64 b 63) * 256)) (wrap64 c) = (b - 192) * 256 + c := by
  rw [and_63, w64 (x := c) (by omega) (by omega), show b % 64 = b - 192 by omega, w64 (by omega) (by omega), or_shl8 _ _ (by omega) (by omega) hc hc2]
theorem l_ptr {s : ByteArray} {i : Int} {out : List Int} {bg bh b c : Int} (hs : s.size ≤ 1000000) (h0 : 0 ≤ i) (h : i + 1 < (s.size : Int)) (ho : out.length < 255) (hb : bt s i = b) (h192 : 192 ≤ b) (hc : bt s (i + 1) = c) (hto : bg ≤ (b - 192) * 256 + c) :
    Ev (fun k => comp_Name.l0 k s i out bg bh) err := by
  have r1 := bt_range s i
  have r2 := bt_range s (i + 1)
  rw [hb] at r1
  rw [hc] at r2
  refine l_go h0 (by omega) ho hb (by omega) (fun h => by omega) (fun _ => ?_)
  refine Ev.step (fun k => by rw [comp_Name.j2]) (Ev.neg (by simp) (Ev.pos h192 ?_))
  rw [w64 (x := i + 1) (by omega) (by omega), decide_eq_true h]
  refine Ev.step (fun k => by rw [comp_Name.j3]) (Ev.pos rfl ?_)
  rw [w64 (x := i + 1) (by omega) (by omega)]
  refine Ev.pos (by omega) (Ev.pos h (Ev.pos ?_ (Ev.some _ fun _ => rfl)))
  rw [hc, to_eq h192 r1.2 r2.1 r2.2]
  exact hto
end Go.Proofs.Ytjklgdpffmaamaa.CompS
