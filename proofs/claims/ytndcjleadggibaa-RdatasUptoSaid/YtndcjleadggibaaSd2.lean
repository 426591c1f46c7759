/- A law's arguments laid open as Lean's own data: what each kind of data reads as, and how much of it there is (uptoBulk). -/
import Derived.Test.YtndcjleadggibaaRows
import Derived.WalkKit
import Derived.ProofKit
import Derived.ChangeArms
import Derived.DataReads
import Derived.Laws.BitsLemmas
import Derived.Laws.BytesArg
import Derived.RowKit
import Derived.IntWalk
import Derived.PlainAid
import Derived.Below
import Derived.Lib.QuietBelow
import Derived.Test.YtndcjleadggibaaProg
import Derived.KernelRfl
import Derived.BigQuiet
import Derived.Deep.QuietTactic
import Derived.WalkLawsBesides
import Derived.Deep.AppendLies
import Derived.Laws.OwnMore
import Derived.OwnWalk
import Derived.Lib.Hide
import Derived.Deep.LoopGhost
import Derived.BigRegion
import Derived.RegionTactic
import Derived.Deep.RegionHeld3
import Derived.Deep.Draws
import Derived.Maps.AppendAt
import Derived.Laws.MakeOwn
import Derived.Deep.OwnRows
import Derived.Tactics
import Derived.Lib.ConvBytes
import Derived.Laws.Slices
import Derived.RowKit3
import Derived.WideLaws
import Derived.Deep.DeepCutAuto
import Derived.Deep.CutBlock
import Derived.Laws.Rows
import Derived.Lib.AppendStr
import Derived.ArgAppend
import Derived.Laws.IdiomCopy
import Derived.OrdersHeld
import Derived.Test.YtndcjleadggibaaSd1
namespace Go.Proofs.Ytndcjleadggibaa.OpenKd
open Go.ChangeShapes Go.WideShapes Go.ChangeAt Go.RowKit Go.Proofs.YtndcjleadggibaaW.PrintWords
set_option linter.unusedVariables false
theorem add_two (a : Addr) (i j : Nat) : (a.add i).add j = a.add (i + j) := by
  unfold Addr.add
  by_cases hi : i = 0
  · simp [hi]
  · by_cases hj : j = 0
    · simp [hj]
    · simp [hi, hj, Nat.add_assoc]
section
variable {H : Type} (enc : TypeId × Value → H) (P : Program) (W : World) (base : Nat) (spare : Nat → Bool) (held : Bool)
/-- Each datum of the type reads as a value of the kind; what is known of it, and how much it is. -/
def Opens {α : Type} (t : TypeId) (d : Kd α) (ok : α → Prop) (bk : α → Nat) : Prop :=
  ∀ fuel cs y, DataW.trod enc P W base spare held fuel t cs = some y → ∃ x, d.K W x cs ∧ ok x ∧ bk x ≤ Rows.uptoBulk y.1
theorem opens_int {t : TypeId} {k : IntKind} (hu : P.underlying t = some (.int k)) : Opens enc P W base spare held t (Kd.int k) (fun x => (Lit.int k x).wf = true) (fun _ => 1) := by
  intro fuel cs y h
  obtain ⟨n, rfl, rfl, hw⟩ := DataW.trod_int hu h
  exact ⟨n, rfl, hw, Nat.le_refl _⟩
theorem opens_string {t : TypeId} (hu : P.underlying t = some .string) : Opens enc P W base spare held t Kd.string (fun s => s.size ≤ maxLen) (fun s => s.size + 1) := by
  intro fuel cs y h
  obtain ⟨s, rfl, rfl, hw⟩ := DataW.trod_string hu h
  refine ⟨s, rfl, hw, ?_⟩
  show s.size + 1 ≤ s.data.toList.length + 1
  rw [Array.length_toList]; exact Nat.le_refl _
/-- All of a list. -/
def bks {α : Type} (bk : α → Nat) (xs : List α) : Nat := (xs.map bk).sum + 1
theorem bulk_sum {α : Type} (bk : α → Nat) : ∀ (xs : List α) (es : List (DataW H × List MemPlace)), es.length = xs.length → (∀ i (h : i < xs.length) (h' : i < es.length), bk xs[i] ≤ Rows.uptoBulk es[i].1) → (xs.map bk).sum ≤ Rows.uptoBulkAll (es.map (·.1))
  | [], [], _, _ => Nat.le_refl _
  | x :: xs, e :: es, hl, h => by
    have h0 := h 0 (by simp) (by simp)
    have ih := bulk_sum bk xs es (by simpa using hl) (fun i hi hi' => h (i + 1) (by simpa using hi) (by simpa using hi'))
    simp only [List.map_cons, List.sum_cons, Rows.uptoBulkAll]
    have h0' : bk x ≤ Rows.uptoBulk e.1 := h0
    omega
variable {enc P W base spare held}
/-- A slice of elements of a kind: its value, and that it reads as a list. -/
theorem open_slice {α : Type} {t e : TypeId} {d : Kd α} {ok : α → Prop} {bk : α → Nat} (hu : P.underlying t = some (.slice e)) (hsz : P.cellsOf e = d.sz) (ho : Opens enc P W base spare held e d ok bk)
    {fuel : Nat} {cs : List Value} {y : DataW H × List MemPlace} (h : DataW.trod enc P W base spare held fuel t cs = some y) :
    ∃ (A : Option Addr) (xs : List α) (c : Nat), cs = [.slice A xs.length c] ∧ xs.length ≤ c ∧ d.C W A xs.length xs ∧ (∀ x ∈ xs, ok x) ∧ bks bk xs ≤ Rows.uptoBulk y.1 := by
  rcases DataW.trod_slice hu h with ⟨rfl, rfl⟩ | ⟨a, len, cap, elems, rest, n, _, rfl, rfl, hb, hl, hm, hlen, hel, hsp, hns⟩
  · exact ⟨none, [], 0, rfl, Nat.le_refl _, ⟨rfl, by simp, fun h => by simp at h⟩, by simp, by simp [bks, Rows.uptoBulk]⟩
  have key : ∀ m, m ≤ len → ∃ xs : List α, xs.length = m ∧ (∀ x ∈ xs, ok x) ∧ (∀ i (hi : i < xs.length) (h' : i < elems.length), bk xs[i] ≤ Rows.uptoBulk elems[i].1) ∧
      ∀ i (hi : i < xs.length), ∃ c, c.length = d.sz ∧ d.K W xs[i] c ∧ ∀ j u, c[j]? = some u → W.cell? (a.add (i * d.sz + j)) = some u := by
    intro m
    induction m with
    | zero => exact fun _ => ⟨[], rfl, by simp, by simp, by simp⟩
    | succ m ih =>
      intro hm'
      obtain ⟨xs, hx, h1, h2, h3⟩ := ih (by omega)
      have hi : m < elems.length := by omega
      have e0 := hel m (by omega)
      rw [List.getElem?_eq_getElem hi, Option.bind_eq_some_iff] at e0
      obtain ⟨c, hc, ht⟩ := e0
      obtain ⟨x, hk, hok, hbk⟩ := ho _ _ _ ht
      obtain ⟨_, hcl, hcc⟩ := World.cells?_some hc
      rw [hsz] at hcl hcc
      refine ⟨xs ++ [x], by simp [hx], ?_, ?_, ?_⟩
      · intro z hz
        rcases List.mem_append.1 hz with hz | hz
        · exact h1 z hz
        · rw [List.mem_singleton.1 hz]; exact hok
      · intro i hi2 h'
        by_cases hlt : i < xs.length
        · rw [List.getElem_append_left hlt]; exact h2 i hlt h'
        · have : i = m := by rw [List.length_append, List.length_singleton] at hi2; omega
          subst this
          rw [List.getElem_append_right (by omega)]
          simpa using hbk
      · intro i hi2
        by_cases hlt : i < xs.length
        · rw [List.getElem_append_left hlt]; exact h3 i hlt
        · have : i = m := by rw [List.length_append, List.length_singleton] at hi2; omega
          subst this
          rw [List.getElem_append_right (by omega)]
          refine ⟨c, hcl, by simpa using hk, fun j u hj => ?_⟩
          have hj' : j < d.sz := by rw [← hcl]; exact (List.getElem?_eq_some_iff.1 hj).1
          have := hcc j hj'
          rw [hj] at this
          rw [← this, add_two]
  obtain ⟨xs, hx, h1, h2, h3⟩ := key len (Nat.le_refl _)
  refine ⟨some a, xs, cap, by rw [hx], by omega, ⟨rfl, by unfold maxLen at hm; omega, fun _ => ⟨a, rfl, fun j p hj => ?_⟩⟩, h1, ?_⟩
  · obtain ⟨hj', rfl⟩ := List.getElem?_eq_some_iff.1 hj
    exact h3 j hj'
  · have := bulk_sum bk xs elems (by omega) h2
    simp only [Rows.uptoBulk, bks]
    omega
variable (enc P W base spare held)
end
end Go.Proofs.Ytndcjleadggibaa.OpenKd

namespace Go.Proofs.Ytndcjleadggibaa.Base
open Go.RowKit Go.PlainAid

theorem wraps_i64 (n : Int) (h0 : 0 ≤ n) (h1 : n < 2 ^ 63) : IntKind.i64.wrap n = n := by
  rw [IntKind.wrap_i64]; omega

theorem or_shl8 (a b : Int) (ha : 0 ≤ a) (ha' : a ≤ 36028797018963967) (hb : 0 ≤ b) (hb' : b ≤ 255) : Go.bits .or .i64 (a * 256) b = a * 256 + b :=
  bits_join .i64 63 (by decide) wraps_i64 8 (a * 256) b (by omega) (by omega) (by omega) hb (by omega) (by omega)

theorem wraps_u64 (n : Int) (h0 : 0 ≤ n) (h1 : n < 2 ^ 64) : IntKind.u64.wrap n = n := IntWalk.u64_in n ⟨h0, by omega⟩
theorem u64_and255 (x : Int) (h0 : 0 ≤ x) (h1 : x < 18446744073709551616) : Go.bits .and .u64 x 255 = x % 256 :=
  bits_mask .u64 64 (by decide) wraps_u64 8 (by decide) x h0 (by omega)
theorem u64_wrap (x : Int) : IntKind.u64.wrap x = x % 18446744073709551616 := by simp [IntKind.wrap, IntKind.bits, IntKind.signed]
theorem w64 {x : Int} (h0 : -9223372036854775808 ≤ x) (h1 : x ≤ 9223372036854775807) : wrap64 x = x := IntWalk.wrap64_in x ⟨h0, h1⟩

/-! ### Strings and their bytes -/
theorem len_data (s : ByteArray) : s.data.toList.length = s.size := by rw [Array.length_toList]; rfl
theorem bt_data (s : ByteArray) (i : Nat) : bt s i = ((s.data.toList.getD i 0).toNat : Int) := by
  unfold bt
  split
  · rename_i h
    have : i < s.data.toList.length := by rw [len_data]; exact h
    rw [List.getD_eq_getElem?_getD, List.getElem?_eq_getElem this]
    rfl
  · rename_i h
    rw [List.getD_eq_getElem?_getD, List.getElem?_eq_none (by rw [len_data]; omega)]
    rfl
theorem strOfNums_append (xs ys : List Int) : strOfNums xs ++ strOfNums ys = strOfNums (xs ++ ys) := by
  apply ByteArray.ext
  apply Array.ext'
  simp [strOfNums, ByteArray.data_append]

/-! ### Worlds -/
theorem below_then {B : Nat} {w w1 w2 : World} (h : Below B w w1) (hB : B ≤ w1.heap.size) (k : Below w1.heap.size w1 w2) : Below B w w2 :=
  h.trans ⟨k.os, k.tape, k.output, k.size, fun i hi => k.block i (Nat.lt_of_lt_of_le hi hB)⟩
theorem below_drew {B : Nat} {w W : World} (h : Below B w W) : Below B w W.drew := ⟨h.os, h.tape, h.output, h.size, h.block⟩
theorem below_alloc {w W : World} (h : Below w.heap.size w W) (o : Obj) : Below w.heap.size w (W.alloc o) := h.alloc h.size o
theorem below_next {w w1 w2 : World} (h : Below w.heap.size w w1) (k : Below w1.heap.size w1 w2) : Below w.heap.size w w2 := below_then h h.size k
/-- A world under a name. -/
theorem world_abs {P : World → Prop} {W : World} (h : ∀ W', W' = W → P W') : P W := h W rfl
/-- What was there reads as before. -/
theorem bcell {w w1 : World} (h : Below w.heap.size w w1) {a : Addr} {v : Value} (hc : w.cell? a = some v) : w1.cell? a = some v := (h.cell (World.block_lt_of_cell? w a hc)).trans hc
end Go.Proofs.Ytndcjleadggibaa.Base

namespace Go.Proofs.Ytndcjleadggibaa.Oct
open Go.RowKit Go.PlainAid Go.Proofs.Ytndcjleadggibaa.Base
set_option linter.unusedVariables false

/-- Two bytes as a number; four. -/
def be2 (s : ByteArray) (i : Nat) : Int := bt s i * 256 + bt s (i + 1)
def be4 (s : ByteArray) (i : Nat) : Int := ((bt s i * 256 + bt s (i + 1)) * 256 + bt s (i + 2)) * 256 + bt s (i + 3)
/-- A number's two lowest bytes; its four. -/
def p16 (x : Int) : ByteArray := strOfNums [(x / 256) % 256, x % 256]
def p32 (x : Int) : ByteArray := strOfNums [(x / 16777216) % 256, (x / 65536) % 256, (x / 256) % 256, x % 256]
theorem p16_size (x : Int) : (p16 x).size = 2 := by simp [p16, strOfNums_size]
theorem p32_size (x : Int) : (p32 x).size = 4 := by simp [p32, strOfNums_size]
theorem or_step (a b : Int) (ha : 0 ≤ a) (ha' : a ≤ 36028797018963967) (hb : 0 ≤ b) (hb' : b ≤ 255) : Go.bits .or .i64 (wrap64 (a * 256)) (wrap64 b) = a * 256 + b := by
  rw [w64 (by omega) (by omega), w64 (by omega) (by omega), or_shl8 _ _ ha ha' hb hb']
theorem or_first (b : Int) (hb : 0 ≤ b) (hb' : b ≤ 255) : Go.bits .or .i64 0 (wrap64 b) = b := by
  have := or_shl8 0 b (by omega) (by omega) hb hb'
  rw [w64 (by omega) (by omega)]; simpa using this
theorem or2 (s : ByteArray) (i : Nat) : Go.bits .or .i64 (wrap64 (Go.bits .or .i64 0 (wrap64 (bt s i)) * 256)) (wrap64 (bt s (i + 1))) = be2 s i := by
  have h0 := bt_nonneg s i; have h1 := bt_nonneg s (i + 1); have k0 := bt_le s i; have k1 := bt_le s (i + 1)
  rw [or_first _ h0 k0, or_step _ _ h0 (by omega) h1 k1]; rfl
theorem or4 (s : ByteArray) (i : Nat) : Go.bits .or .i64 (wrap64 (Go.bits .or .i64 (wrap64 (Go.bits .or .i64 (wrap64 (Go.bits .or .i64 0 (wrap64 (bt s i)) * 256)) (wrap64 (bt s (i + 1))) * 256)) (wrap64 (bt s (i + 2))) * 256)) (wrap64 (bt s (i + 3))) = be4 s i := by
  have h0 := bt_nonneg s i; have h1 := bt_nonneg s (i + 1); have k0 := bt_le s i; have k1 := bt_le s (i + 1)
  have h2 := bt_nonneg s (i + 2); have h3 := bt_nonneg s (i + 3); have k2 := bt_le s (i + 2); have k3 := bt_le s (i + 3)
  rw [or2, show be2 s i = bt s i * 256 + bt s (i + 1) from rfl, or_step _ _ (by omega) (by omega) h2 k2, or_step _ _ (by omega) (by omega) h3 k3]; rfl

set_option maxHeartbeats 400000 in
theorem num4 (s : ByteArray) (i : Nat) (w : World) (hs : s.size ≤ 9223372036854775000) (h : i + 4 ≤ s.size) :
    Calls Try.prog 68 #[.string s, .int .i64 i, .int .i64 4] w fun e w' => e = .returned (.tuple #[.int .i64 (be4 s i), .int .i64 (i + 4), .int .i64 0]) ∧ w = w' := by
  have q0 : decide ((i : Int) < 0) = false := by simp
  have hb := get_bt s
  go_enter Try.func68, Try.ntmps68
  go_wp2
  refine wp_loop_rounds 5 ?_
  repeat (rw [rounds_succ]; go_wp2)
  go_ret3
  exact ⟨by rw [or4]; rfl, rfl⟩
set_option maxHeartbeats 400000 in
theorem rnum4 (s : ByteArray) (i : Nat) (w : World) (hs : s.size ≤ 9223372036854775000) (h : i + 4 ≤ s.size) :
    Calls Try.prog 53 #[.string s, .int .i64 i, .int .i64 4] w fun e w' => e = .returned (.tuple #[.int .i64 (be4 s i), .int .i64 (i + 4), .int .i64 0]) ∧ w = w' := by
  have q0 : decide ((i : Int) < 0) = false := by simp
  have hb := get_bt s
  go_enter Try.func53, Try.ntmps53
  go_wp2
  refine wp_loop_rounds 5 ?_
  repeat (rw [rounds_succ]; go_wp2)
  go_ret3
  exact ⟨by rw [or4]; rfl, rfl⟩
/-! ### U16, U32, Put16, Put32, Be -/
set_option maxHeartbeats 400000 in
theorem u32 (s : ByteArray) (i : Nat) (w : World) (hs : s.size ≤ 9223372036854775000) (h : i + 4 ≤ s.size) :
    Calls Try.prog 56 #[.string s, .int .i64 i] w fun e w' => e = .returned (.tuple #[.int .i64 (be4 s i), .int .i64 (i + 4), .int .i64 0]) ∧ w = w' := by
  go_enter Try.func56, Try.ntmps56
  go_wp2_with (go_at_call 68; refine (num4 s i _ hs h).mono ?_; rintro e w' ⟨rfl, rfl⟩)
  go_ret3
  exact ⟨rfl, rfl⟩
set_option maxHeartbeats 400000 in
theorem put16 (x : Int) (w : World) : Calls Try.prog 47 #[.int .i64 x] w fun e w' => e = .returned (.string (p16 x)) ∧ Below w.heap.size w w' := by
  have hcv := run_convert_bytes_arg (P := Try.prog) (w.alloc (.cells #[.int .u8 (x / 256 % 256), .int .u8 (x % 256)] 5)) 54 5 Try.underlying54 Try.underlying5 w.heap.size 0 2 2 [x / 256 % 256, x % 256] rfl
    (fun i hi => by obtain rfl | rfl : i = 0 ∨ i = 1 := by omega
                    · go_simp
                    · go_simp) 9 Try.underlying9
  go_enter Try.func47, Try.ntmps47
  go_wp2
  go_ret
  exact ⟨rfl, below_alloc (Below.refl _ _) _⟩
theorem p16_append (x : Int) : p16 (x / 65536) ++ p16 x = p32 x := by
  unfold p16 p32
  rw [strOfNums_append, show x / 65536 / 256 = x / 16777216 by omega]
  rfl
set_option maxHeartbeats 400000 in
theorem put32 (x : Int) (w : World) : Calls Try.prog 55 #[.int .i64 x] w fun e w' => e = .returned (.string (p32 x)) ∧ Below w.heap.size w w' := by
  have z1 := p16_size (x / 65536)
  have z2 := p16_size x
  go_enter Try.func55, Try.ntmps55
  go_wp2_with fail
  refine (put16 (x / 65536) _).mono ?_
  rintro e w1 ⟨rfl, hb1⟩
  go_wp2_with fail
  refine (put16 x _).mono ?_
  rintro e w2 ⟨rfl, hb2⟩
  go_wp2
  go_ret
  exact ⟨by rw [← p16_append]; rfl, below_next hb1 hb2⟩

/-- The document's Be, of two bytes and of four. -/
theorem be2_list (x : Int) : strOfNums [Go.bits .and .u64 (IntKind.u64.wrap x / 256) 255 % 256, Go.bits .and .u64 (IntKind.u64.wrap x) 255 % 256] = p16 x := by
  rw [u64_wrap, u64_and255 _ (by omega) (by omega), u64_and255 _ (by omega) (by omega)]
  unfold p16
  rw [show x % 18446744073709551616 / 256 % 256 % 256 = x / 256 % 256 by omega, show x % 18446744073709551616 % 256 % 256 = x % 256 by omega]
theorem be4_list (x : Int) : strOfNums [Go.bits .and .u64 (IntKind.u64.wrap x / 256 / 256 / 256) 255 % 256, Go.bits .and .u64 (IntKind.u64.wrap x / 256 / 256) 255 % 256, Go.bits .and .u64 (IntKind.u64.wrap x / 256) 255 % 256, Go.bits .and .u64 (IntKind.u64.wrap x) 255 % 256] = p32 x := by
  rw [u64_wrap, u64_and255 _ (by omega) (by omega), u64_and255 _ (by omega) (by omega), u64_and255 _ (by omega) (by omega), u64_and255 _ (by omega) (by omega)]
  unfold p32
  rw [show x % 18446744073709551616 / 256 / 256 / 256 % 256 % 256 = x / 16777216 % 256 by omega, show x % 18446744073709551616 / 256 / 256 % 256 % 256 = x / 65536 % 256 by omega, show x % 18446744073709551616 / 256 % 256 % 256 = x / 256 % 256 by omega, show x % 18446744073709551616 % 256 % 256 = x % 256 by omega]
set_option maxHeartbeats 1000000 in
theorem rbe2 (x : Int) (w : World) : Calls Try.prog 49 #[.int .i64 x, .int .i64 2] w fun e w' => e = .returned (.string (p16 x)) ∧ Below w.heap.size w w' := by
  have hmk : ∀ w, (Instr.makeSlice 54 (.int .i64 2) (.int .i64 2)).run Try.prog w = .ok (.slice (some ⟨w.heap.size, 0, none⟩) 2 2) (w.alloc (.cells #[.int .u8 0, .int .u8 0] 5)) := fun _ => by kernel_rfl
  have hcv := run_convert_bytes_arg (P := Try.prog) (w.alloc (.cells #[.int .u8 (Go.bits .and .u64 (IntKind.u64.wrap x / 256) 255 % 256), .int .u8 (Go.bits .and .u64 (IntKind.u64.wrap x) 255 % 256)] 5)) 54 5 Try.underlying54 Try.underlying5 w.heap.size 0 2 2 [Go.bits .and .u64 (IntKind.u64.wrap x / 256) 255 % 256, Go.bits .and .u64 (IntKind.u64.wrap x) 255 % 256] rfl
    (fun i hi => by obtain rfl | rfl : i = 0 ∨ i = 1 := by omega
                    · go_simp
                    · go_simp) 9 Try.underlying9
  go_enter Try.func49, Try.ntmps49
  go_wp2
  refine wp_loop_rounds 3 ?_
  repeat (rw [rounds_succ]; go_wp2)
  go_ret
  exact ⟨by rw [be2_list]; rfl, below_alloc (Below.refl _ _) _⟩
set_option maxHeartbeats 1000000 in
theorem rbe4 (x : Int) (w : World) : Calls Try.prog 49 #[.int .i64 x, .int .i64 4] w fun e w' => e = .returned (.string (p32 x)) ∧ Below w.heap.size w w' := by
  have hmk : ∀ w, (Instr.makeSlice 54 (.int .i64 4) (.int .i64 4)).run Try.prog w = .ok (.slice (some ⟨w.heap.size, 0, none⟩) 4 4) (w.alloc (.cells #[.int .u8 0, .int .u8 0, .int .u8 0, .int .u8 0] 5)) := fun _ => by kernel_rfl
  have hcv := run_convert_bytes_arg (P := Try.prog) (w.alloc (.cells #[.int .u8 (Go.bits .and .u64 (IntKind.u64.wrap x / 256 / 256 / 256) 255 % 256), .int .u8 (Go.bits .and .u64 (IntKind.u64.wrap x / 256 / 256) 255 % 256), .int .u8 (Go.bits .and .u64 (IntKind.u64.wrap x / 256) 255 % 256), .int .u8 (Go.bits .and .u64 (IntKind.u64.wrap x) 255 % 256)] 5)) 54 5 Try.underlying54 Try.underlying5 w.heap.size 0 4 4 [Go.bits .and .u64 (IntKind.u64.wrap x / 256 / 256 / 256) 255 % 256, Go.bits .and .u64 (IntKind.u64.wrap x / 256 / 256) 255 % 256, Go.bits .and .u64 (IntKind.u64.wrap x / 256) 255 % 256, Go.bits .and .u64 (IntKind.u64.wrap x) 255 % 256] rfl
    (fun i hi => by obtain rfl | rfl | rfl | rfl : i = 0 ∨ i = 1 ∨ i = 2 ∨ i = 3 := by omega
                    · go_simp
                    · go_simp
                    · go_simp
                    · go_simp) 9 Try.underlying9
  go_enter Try.func49, Try.ntmps49
  go_wp2
  refine wp_loop_rounds 5 ?_
  repeat (rw [rounds_succ]; go_wp2)
  go_ret
  exact ⟨by rw [be4_list]; rfl, below_alloc (Below.refl _ _) _⟩
/-! ### The place as a whole number -/
theorem rnum4z (s : ByteArray) (i : Int) (w : World) (hs : s.size ≤ 9223372036854775000) (h0 : 0 ≤ i) (h : i + 4 ≤ s.size) :
    Calls Try.prog 53 #[.string s, .int .i64 i, .int .i64 4] w fun e w' => e = .returned (.tuple #[.int .i64 (be4 s i.toNat), .int .i64 (i + 4), .int .i64 0]) ∧ w = w' := by
  obtain ⟨k, rfl⟩ := Int.eq_ofNat_of_zero_le h0
  exact rnum4 s k w hs (by omega)
theorem u32z (s : ByteArray) (i : Int) (w : World) (hs : s.size ≤ 9223372036854775000) (h0 : 0 ≤ i) (h : i + 4 ≤ s.size) :
    Calls Try.prog 56 #[.string s, .int .i64 i] w fun e w' => e = .returned (.tuple #[.int .i64 (be4 s i.toNat), .int .i64 (i + 4), .int .i64 0]) ∧ w = w' := by
  obtain ⟨k, rfl⟩ := Int.eq_ofNat_of_zero_le h0
  exact u32 s k w hs (by omega)
end Go.Proofs.Ytndcjleadggibaa.Oct

namespace Go.Proofs.Ytndcjleadggibaa.Sl
open Go.RowKit Go.PlainAid Go.Proofs.Ytndcjleadggibaa.Base
set_option linter.unusedVariables false

section
variable {w : World} {base size n : Nat} {e : TypeId} {v : Value} {xs : List Value}
theorem own_base (h : w.ownsRow base e size v n xs) (k : Nat) (hk : v.ownBlock = some k) : base ≤ k := by
  rcases h.2 with ⟨rfl, _⟩ | ⟨g, cap, cur, rfl, hb, _⟩
  · simp [Value.ownBlock] at hk
  · have : g = k := by simpa [Value.ownBlock] using hk
    omega
end

section
variable {P : Program} {ops : Array Oper} {rest : List Oper} {o : Oper} {a : Act} {Q : Exit → Act → World → Prop}
/-- append(v, x), x an element of the cells cs, which lies in the variadic's own block. -/
theorem append_row {w0 W : World} (base : Nat) (hgd : o.guard = none) (s x : Operand) (t e : TypeId) (z : Value) (size bytes : Nat)
    (ho : o.op = .call { callee := .builtin .append, args := #[s, x], argTypes := #[t, t] })
    (ht : P.underlying t = some (.slice e)) (hinfo : (P.info? e).map (fun i => (i.zero, i.size, i.bytes)) = some (some z, size, bytes)) (hz : z.cells.size = size) (hsz : 0 < size)
    {v : Value} {n : Nat} {xs : List Value} (HO : W.ownsRow base e size v n xs) (cs : Array Value) (hs : a.eval s = v) (hx : a.eval x = .slice (some ⟨W.heap.size, 0, none⟩) 1 1)
    (hc : cs.size = size) (h1 : ∀ u ∈ cs.toList, u.oneCell' = true)
    (HB : Below base w0 W) (hbase : base ≤ W.heap.size) (hn : n + 1 ≤ 140737488355328) (hl : (n + 1) * bytes ≤ 140737488355328)
    (h : ∀ v1 w1, w1.ownsRow base e size v1 (n + 1) (xs ++ cs.toList) → Below base w0 w1 → wpList P ops Q rest (a.put o.dst v1) w1) :
    wpList P ops Q (o :: rest) a (W.alloc (.cells cs e)) := by
  obtain ⟨i0, hi, hz0, hz1, hz2⟩ := info_parts hinfo
  refine wpList_append_own (W.alloc (.cells cs e)) hgd s x t ho base e i0 z size bytes ht hi hz0 hz1 hz2 hz hsz v n xs hs (HO.alloc _) ⟨W.heap.size, 0, none⟩ 1 1 cs.toList hx (by simp [hc])
    (World.news_of_block (cs := cs) (t := e) (fr := (0, 0)) (heap_alloc_new W _)) h1 (by simp only [maxLen]; omega) hl (by simp; omega) ?_
  intro v1 w1 hown hg _
  exact h v1 w1 hown ((HB.alloc hbase _).grown hg (by simp; omega) (own_base HO))
end
end Go.Proofs.Ytndcjleadggibaa.Sl

namespace Go.Proofs.Ytndcjleadggibaa.Nm
open Go.RowKit Go.PlainAid Go.Proofs.Ytndcjleadggibaa.Base Go.Proofs.Ytndcjleadggibaa.Oct Go.Proofs.Ytndcjleadggibaa.Sl
set_option linter.unusedVariables false

/-- From a place on: do labels follow up to the last byte, which ends the name? -/
def nameAt (s : ByteArray) (i : Nat) : Bool :=
  if i < s.size then
    if bt s i = 0 then decide (i + 1 = s.size) else if 63 < bt s i then false else nameAt s (i + 1 + (bt s i).toNat)
  else false
termination_by s.size - i
/-- Where the labels begin, from a place on, and the last byte's place. -/
def placesAt (s : ByteArray) (i : Nat) : List Nat :=
  if i < s.size then
    i :: (if bt s i = 0 then [] else if 63 < bt s i then [] else placesAt s (i + 1 + (bt s i).toNat))
  else []
termination_by s.size - i
/-- Is it a name? -/
def nameB (s : ByteArray) : Bool := decide (s.size ≤ 255) && nameAt s 0
def places (s : ByteArray) : List Nat := placesAt s 0
theorem nameAt_end {s : ByteArray} {i : Nat} (h : i < s.size) (h0 : bt s i = 0) : nameAt s i = decide (i + 1 = s.size) := by
  rw [nameAt, if_pos h, if_pos h0]
theorem nameAt_bad {s : ByteArray} {i : Nat} (h : i < s.size) (h0 : 63 < bt s i) : nameAt s i = false := by
  rw [nameAt, if_pos h, if_neg (by omega), if_pos h0]
theorem nameAt_next {s : ByteArray} {i : Nat} (h : i < s.size) (h0 : bt s i ≠ 0) (h1 : bt s i ≤ 63) : nameAt s i = nameAt s (i + 1 + (bt s i).toNat) := by
  rw [nameAt, if_pos h, if_neg h0, if_neg (by omega)]
theorem nameAt_out {s : ByteArray} {i : Nat} (h : s.size ≤ i) : nameAt s i = false := by
  rw [nameAt, if_neg (by omega)]
theorem placesAt_end {s : ByteArray} {i : Nat} (h : i < s.size) (h0 : bt s i = 0) : placesAt s i = [i] := by
  rw [placesAt, if_pos h, if_pos h0]
theorem placesAt_next {s : ByteArray} {i : Nat} (h : i < s.size) (h0 : bt s i ≠ 0) (h1 : bt s i ≤ 63) : placesAt s i = i :: placesAt s (i + 1 + (bt s i).toNat) := by
  rw [placesAt, if_pos h, if_neg h0, if_neg (by omega)]
def pcells (xs : List Nat) : List Value := xs.map fun (k : Nat) => .int .i64 (k : Int)

theorem info_int : (Try.prog.info? 3).map (fun i => (i.zero, i.size, i.bytes)) = some (some (.int .i64 0), 1, 8) := by kernel_rfl

/-- Places: whether it is a name; the places, if it is. -/
def PlacesPost (s : ByteArray) (w : World) (e : Ending) (w' : World) : Prop :=
  ∃ v, e = .returned (.tuple #[v, .bool (nameB s)]) ∧ Below w.heap.size w w' ∧ (nameB s = true → w'.ownsRow w.heap.size 3 1 v (places s).length (pcells (places s)))
theorem placesLong (s : ByteArray) (w : World) (h : 255 < s.size) : Calls Try.prog 69 #[.string s] w (PlacesPost s w) := by
  have q : decide ((255 : Int) < s.size) = true := by simp; omega
  have hn : nameB s = false := by unfold nameB; simp; omega
  have HN := Lib.hid hn
  clear hn
  go_enter Try.func69, Try.ntmps69
  go_wp2
  go_step3
  go_wp2
  rw [Exit.noGoto_ret]
  go_ret2
  exact ⟨_, by rw [HN.out]; rfl, Below.refl _ _, fun h => by rw [HN.out] at h; cases h⟩
/-- What holds at each round's head. -/
structure Rnd (s : ByteArray) (w : World) (i : Nat) (v : Value) (wr : World) : Prop where
  nm : nameAt s i = nameAt s 0
  own : ∃ xs : List Nat, xs ++ placesAt s i = placesAt s 0 ∧ xs.length ≤ i ∧ wr.ownsRow w.heap.size 3 1 v xs.length (pcells xs)
  bel : Below w.heap.size w wr
theorem pcells_snoc (xs : List Nat) (i : Nat) : pcells xs ++ [.int .i64 (i : Int)] = pcells (xs ++ [i]) := by simp [pcells]
theorem Rnd.next {s : ByteArray} {w : World} {i : Nat} {xs : List Nat} {v1 : Value} {w1 : World} (hnm : nameAt s i = nameAt s 0) (hlt : i < s.size) (h0 : bt s i ≠ 0) (h1 : bt s i ≤ 63) (hx : xs ++ placesAt s i = placesAt s 0) (hl : xs.length ≤ i)
    (hown : w1.ownsRow w.heap.size 3 1 v1 (xs.length + 1) (pcells xs ++ [.int .i64 (i : Int)])) (hb : Below w.heap.size w w1) : Rnd s w (i + 1 + (bt s i).toNat) v1 w1 where
  nm := by rw [← nameAt_next hlt h0 h1]; exact hnm
  own := ⟨xs ++ [i], by rw [← hx, placesAt_next hlt h0 h1]; simp, by simp; omega, by rw [← pcells_snoc]; simpa using hown⟩
  bel := hb
theorem placesEnd {s : ByteArray} {w : World} {i : Nat} {xs : List Nat} {v1 : Value} {w1 : World} {b : Bool} (hs : s.size ≤ 255) (hnm : nameAt s i = nameAt s 0) (hlt : i < s.size) (h0 : bt s i = 0) (hx : xs ++ placesAt s i = placesAt s 0)
    (hown : w1.ownsRow w.heap.size 3 1 v1 (xs.length + 1) (pcells xs ++ [.int .i64 (i : Int)])) (hb : Below w.heap.size w w1) (hbb : b = decide (i + 1 = s.size)) : PlacesPost s w (.returned (.tuple #[v1, .bool b])) w1 := by
  have e1 : nameB s = b := by unfold nameB; rw [← hnm, nameAt_end hlt h0, hbb]; simp [hs]
  refine ⟨v1, by rw [e1], hb, fun _ => ?_⟩
  unfold places
  rw [← hx, placesAt_end hlt h0, ← pcells_snoc]
  simpa using hown
theorem placesBad {s : ByteArray} {w : World} {i : Nat} {v1 : Value} {w1 : World} (hnm : nameAt s i = nameAt s 0) (hf : nameAt s i = false) (hb : Below w.heap.size w w1) : PlacesPost s w (.returned (.tuple #[v1, .bool false])) w1 := by
  have e1 : nameB s = false := by unfold nameB; rw [← hnm, hf]; simp
  exact ⟨v1, by rw [e1], hb, fun h => by rw [e1] at h; cases h⟩
set_option maxHeartbeats 2000000 in
theorem placesShort (s : ByteArray) (w : World) (h : s.size ≤ 255) : Calls Try.prog 69 #[.string s] w (PlacesPost s w) := by
  have q : decide ((255 : Int) < s.size) = false := by simp; omega
  go_enter Try.func69, Try.ntmps69
  go_wp2
  go_step3
  go_wp2
  go_step3
  go_wp2
  go_loopg [4, 5, 6] (s.size + 65) (fun k v4 v5 v6 wr => ∃ i : Nat, v5 = .int .i64 i ∧ i + k ≤ s.size + 65 ∧ s.size + 65 ≤ i + k ∧ i ≤ s.size + 64 ∧ Rnd s w i v4 wr)
  case atStart => exact ⟨0, rfl, by omega, by omega, by omega, rfl, ⟨[], rfl, Nat.le_refl _, World.ownsRow_nil _ _ _ _⟩, Below.refl _ _⟩
  case round =>
    obtain ⟨i, rfl, hk1, hk2, hk3, hR⟩ := hrel
    have hnm := Lib.hid hR.nm
    have hbel := hR.bel
    by_cases hlt : i < s.size
    · have q0 : decide ((i : Int) < s.size) = true := by simp; omega
      have qs : decide ((0 : Int) < s.size) = true := by simp; omega
      have hb := get_bt s
      have wb : wrap64 (bt s i) = bt s i := w64 (by have := bt_nonneg s i; omega) (by have := bt_le s i; omega)
      obtain ⟨xs, hxs, hxl, hown⟩ := hR.own
      have HX := Lib.hid hxs
      clear hxs
      have hsz := hbel.size
      by_cases hz : bt s i = 0
      · have q1 : (bt s i == 0) = true := by simp [hz]
        have HZ := Lib.hid hz
        clear hz
        go_wp2_with (at_builtin; refine append_row (w0 := w) w.heap.size rfl _ _ 87 3 (.int .i64 0) 1 8 rfl Try.underlying87 info_int rfl (by decide) hown #[.int .i64 i] rfl rfl rfl ?h1 hbel hsz ?hn ?hl ?_)
        case h1 => rfl
        case hn => omega
        case hl => omega
        intro v1 w1 hown1 hbel1
        go_wp2
        rw [Exit.noGoto_ret]
        go_ret2
        exact placesEnd h hnm.out hlt HZ.out HX.out hown1 hbel1 (by rw [Bool.eq_iff_iff]; simp; omega)
      · have q1 : (bt s i == 0) = false := by simp [hz]
        have HZ := Lib.hid hz
        clear hz
        by_cases h63 : bt s i ≤ 63
        · have q2 : decide (63 < bt s i) = false := by simp; omega
          have H63 := Lib.hid h63
          clear h63
          have ws : wrap64 ((i : Int) + wrap64 (1 + bt s i)) = ((i + 1 + (bt s i).toNat : Nat) : Int) := by
            have := bt_nonneg s i; have := bt_le s i
            rw [w64 (x := 1 + bt s i) (by omega) (by omega), w64 (by omega) (by omega)]; omega
          go_wp2_with (at_builtin; refine append_row (w0 := w) w.heap.size rfl _ _ 87 3 (.int .i64 0) 1 8 rfl Try.underlying87 info_int rfl (by decide) hown #[.int .i64 i] rfl rfl rfl ?h1 hbel hsz ?hn ?hl ?_)
          case h1 => rfl
          case hn => omega
          case hl => omega
          intro v1 w1 hown1 hbel1
          go_wp2
          go_roundg (gk - 1 - (bt s i).toNat)
          case measure => omega
          case rel =>
            have := H63.out; have := bt_nonneg s i
            exact ⟨i + 1 + (bt s i).toNat, congrArg _ ws, by omega, by omega, by omega, Rnd.next hnm.out hlt HZ.out H63.out HX.out hxl hown1 hbel1⟩
        · have q2 : decide (63 < bt s i) = true := by simp; omega
          have H63 := Lib.hid h63
          clear h63
          go_wp2_with (at_builtin; refine append_row (w0 := w) w.heap.size rfl _ _ 87 3 (.int .i64 0) 1 8 rfl Try.underlying87 info_int rfl (by decide) hown #[.int .i64 i] rfl rfl rfl ?h1 hbel hsz ?hn ?hl ?_)
          case h1 => rfl
          case hn => omega
          case hl => omega
          intro v1 w1 hown1 hbel1
          go_wp2
          rw [Exit.noGoto_ret]
          go_ret2
          exact placesBad hnm.out (nameAt_bad hlt (by have := H63.out; omega)) hbel1
    · have q0 : decide ((i : Int) < s.size) = false := by simp; omega
      by_cases hs0 : s.size = 0
      · have qs : decide (0 < s.size) = false := decide_eq_false (by omega)
        have HS := Lib.hid hs0
        clear hs0
        go_wp2
        rw [Exit.noGoto_ret]
        go_ret2
        exact placesBad hnm.out (nameAt_out (by omega)) hbel
      · have qs : decide (0 < s.size) = true := decide_eq_true (by omega)
        have qe : ((i : Int) == (s.size : Int) - 1) = false := by simp; omega
        have HS := Lib.hid hs0
        clear hs0
        go_wp2
        rw [Exit.noGoto_ret]
        go_ret2
        exact placesBad hnm.out (nameAt_out (by omega)) hbel
end Go.Proofs.Ytndcjleadggibaa.Nm

namespace Go.Proofs.Ytndcjleadggibaa.Nm
open Go.RowKit Go.PlainAid Go.Proofs.Ytndcjleadggibaa.Base Go.Proofs.Ytndcjleadggibaa.Oct Go.Proofs.Ytndcjleadggibaa.Sl
set_option linter.unusedVariables false

theorem places_any (s : ByteArray) (w : World) : Calls Try.prog 69 #[.string s] w (PlacesPost s w) := by
  by_cases h : s.size ≤ 255
  · exact placesShort s w h
  · exact placesLong s w (by omega)
set_option maxHeartbeats 400000 in
theorem may (s : ByteArray) (w : World) : Calls Try.prog 57 #[.string s] w fun e w' => e = .returned (.bool (nameB s)) ∧ Below w.heap.size w w' := by
  go_enter Try.func57, Try.ntmps57
  go_wp2_with fail
  refine (places_any s _).mono ?_
  rintro e w' ⟨v, rfl, hb, _⟩
  go_wp2
  go_ret
  exact ⟨rfl, hb⟩
theorem placesLongBad {s : ByteArray} {w : World} {v1 : Value} {w1 : World} (h : ¬ s.size ≤ 255) (hb : Below w.heap.size w w1) : PlacesPost s w (.returned (.tuple #[v1, .bool false])) w1 := by
  have e1 : nameB s = false := by unfold nameB; simp; omega
  exact ⟨v1, by rw [e1], hb, fun h => by rw [e1] at h; cases h⟩
set_option maxHeartbeats 1000000 in
theorem rplacesLong (s : ByteArray) (w : World) (h : ¬ s.size ≤ 255) : Calls Try.prog 66 #[.string s] w (PlacesPost s w) := by
  have q : decide ((s.size : Int) ≤ 255) = false := by simp; omega
  have q0 : decide (0 < s.size) = true := decide_eq_true (by omega)
  have H := Lib.hid h
  clear h
  go_enter Try.func66, Try.ntmps66
  go_wp2
  refine wp_loop_rounds 1 ?_
  rw [rounds_succ]
  go_wp2
  go_ret2
  exact placesLongBad H.out (Below.refl _ _)
set_option maxHeartbeats 2000000 in
theorem rplacesShort (s : ByteArray) (w : World) (h : s.size ≤ 255) : Calls Try.prog 66 #[.string s] w (PlacesPost s w) := by
  have q : decide ((s.size : Int) ≤ 255) = true := by simp; omega
  go_enter Try.func66, Try.ntmps66
  go_wp2
  go_loopg [4, 5, 6] (s.size + 65) (fun k v4 v5 v6 wr => ∃ i : Nat, v5 = .int .i64 i ∧ i + k ≤ s.size + 65 ∧ s.size + 65 ≤ i + k ∧ i ≤ s.size + 64 ∧ Rnd s w i v4 wr)
  case atStart => exact ⟨0, rfl, by omega, by omega, by omega, rfl, ⟨[], rfl, Nat.le_refl _, World.ownsRow_nil _ _ _ _⟩, Below.refl _ _⟩
  case round =>
    obtain ⟨i, rfl, hk1, hk2, hk3, hR⟩ := hrel
    have hnm := Lib.hid hR.nm
    have hbel := hR.bel
    by_cases hlt : i < s.size
    · have q0 : decide ((i : Int) < s.size) = true := by simp; omega
      have hb := get_bt s
      have wb : wrap64 (bt s i) = bt s i := w64 (by have := bt_nonneg s i; omega) (by have := bt_le s i; omega)
      obtain ⟨xs, hxs, hxl, hown⟩ := hR.own
      have HX := Lib.hid hxs
      clear hxs
      have hsz := hbel.size
      by_cases hz : bt s i = 0
      · have q1 : (bt s i == 0) = true := by simp [hz]
        have HZ := Lib.hid hz
        clear hz
        go_wp2_with (at_builtin; refine append_row (w0 := w) w.heap.size rfl _ _ 87 3 (.int .i64 0) 1 8 rfl Try.underlying87 info_int rfl (by decide) hown #[.int .i64 i] rfl rfl rfl ?h1 hbel hsz ?hn ?hl ?_)
        case h1 => rfl
        case hn => omega
        case hl => omega
        intro v1 w1 hown1 hbel1
        go_wp2
        go_ret2
        exact placesEnd h hnm.out hlt HZ.out HX.out hown1 hbel1 (by rw [Bool.eq_iff_iff]; simp; omega)
      · have q1 : (bt s i == 0) = false := by simp [hz]
        have HZ := Lib.hid hz
        clear hz
        by_cases h63 : bt s i ≤ 63
        · have q2 : decide (63 < bt s i) = false := by simp; omega
          have H63 := Lib.hid h63
          clear h63
          have ws : wrap64 ((i : Int) + 1 + bt s i) = ((i + 1 + (bt s i).toNat : Nat) : Int) := by
            have := bt_nonneg s i; have := bt_le s i
            rw [w64 (by omega) (by omega)]; omega
          go_wp2_with (at_builtin; refine append_row (w0 := w) w.heap.size rfl _ _ 87 3 (.int .i64 0) 1 8 rfl Try.underlying87 info_int rfl (by decide) hown #[.int .i64 i] rfl rfl rfl ?h1 hbel hsz ?hn ?hl ?_)
          case h1 => rfl
          case hn => omega
          case hl => omega
          intro v1 w1 hown1 hbel1
          go_wp2
          go_roundg (gk - 1 - (bt s i).toNat)
          case measure => omega
          case rel =>
            have := H63.out; have := bt_nonneg s i
            exact ⟨i + 1 + (bt s i).toNat, congrArg _ ws, by omega, by omega, by omega, Rnd.next hnm.out hlt HZ.out H63.out HX.out hxl hown1 hbel1⟩
        · have q2 : decide (63 < bt s i) = true := by simp; omega
          have H63 := Lib.hid h63
          clear h63
          go_wp2_with (at_builtin; refine append_row (w0 := w) w.heap.size rfl _ _ 87 3 (.int .i64 0) 1 8 rfl Try.underlying87 info_int rfl (by decide) hown #[.int .i64 i] rfl rfl rfl ?h1 hbel hsz ?hn ?hl ?_)
          case h1 => rfl
          case hn => omega
          case hl => omega
          intro v1 w1 hown1 hbel1
          go_wp2
          go_ret2
          exact placesBad hnm.out (nameAt_bad hlt (by have := H63.out; omega)) hbel1
    · have q0 : decide ((i : Int) < s.size) = false := by simp; omega
      go_wp2
      go_ret2
      exact placesBad hnm.out (nameAt_out (by omega)) hbel
theorem rplaces_any (s : ByteArray) (w : World) : Calls Try.prog 66 #[.string s] w (PlacesPost s w) := by
  by_cases h : s.size ≤ 255
  · exact rplacesShort s w h
  · exact rplacesLong s w h
set_option maxHeartbeats 400000 in
theorem rmay (s : ByteArray) (w : World) : Calls Try.prog 44 #[.string s] w fun e w' => e = .returned (.bool (nameB s)) ∧ Below w.heap.size w w' := by
  go_enter Try.func44, Try.ntmps44
  go_wp2_with fail
  refine (rplaces_any s _).mono ?_
  rintro e w' ⟨v, rfl, hb, _⟩
  go_wp2
  go_ret
  exact ⟨rfl, hb⟩

/-! ### Where the name ends that begins at a place -/
def zeroAt (s : ByteArray) (i : Nat) : Option Nat :=
  if i < s.size then
    if bt s i = 0 then some i else zeroAt s (i + 1 + (bt s i).toNat)
  else none
termination_by s.size - i
theorem zeroAt_end {s : ByteArray} {i : Nat} (h : i < s.size) (h0 : bt s i = 0) : zeroAt s i = some i := by rw [zeroAt, if_pos h, if_pos h0]
theorem zeroAt_next {s : ByteArray} {i : Nat} (h : i < s.size) (h0 : bt s i ≠ 0) : zeroAt s i = zeroAt s (i + 1 + (bt s i).toNat) := by rw [zeroAt, if_pos h, if_neg h0]
theorem zeroAt_out {s : ByteArray} {i : Nat} (h : s.size ≤ i) : zeroAt s i = none := by rw [zeroAt, if_neg (by omega)]
theorem zeroAt_ge {s : ByteArray} : ∀ (d i p : Nat), s.size - i ≤ d → zeroAt s i = some p → i ≤ p ∧ p < s.size
  | 0, i, p, hd, h => by rw [zeroAt_out (by omega)] at h; cases h
  | d + 1, i, p, hd, h => by
    by_cases hlt : i < s.size
    · by_cases h0 : bt s i = 0
      · rw [zeroAt_end hlt h0] at h
        cases h
        exact ⟨Nat.le_refl _, hlt⟩
      · rw [zeroAt_next hlt h0] at h
        have := zeroAt_ge d _ p (by omega) h
        omega
    · rw [zeroAt_out (by omega)] at h; cases h
/-- The place behind the name that begins at a place; -1: none. -/
def endN (s : ByteArray) (a : Nat) : Int := match zeroAt s a with
  | some p => if nameB (s.extract a (p + 1)) then (p + 1 : Int) else -1
  | none => -1
theorem endN_of {s : ByteArray} {a i : Nat} (hz : zeroAt s i = zeroAt s a) (h : i < s.size) (h0 : bt s i = 0) : endN s a = if nameB (s.extract a (i + 1)) then (i + 1 : Int) else -1 := by
  unfold endN; rw [← hz, zeroAt_end h h0]
theorem endN_out {s : ByteArray} {a i : Nat} (hz : zeroAt s i = zeroAt s a) (h : s.size ≤ i) : endN s a = -1 := by
  unfold endN; rw [← hz, zeroAt_out h]
theorem nameB_long {s : ByteArray} (h : 255 < s.size) : nameB s = false := by unfold nameB; simp; omega
theorem endN_far {s : ByteArray} {i : Nat} (hz : zeroAt s i = zeroAt s 0) (h : 255 ≤ i) : endN s 0 = -1 := by
  unfold endN
  rw [← hz]
  cases hp : zeroAt s i with
  | none => rfl
  | some p =>
    have := zeroAt_ge _ i p (Nat.le_refl _) hp
    simp only
    rw [nameB_long (by rw [ByteArray.size_extract]; omega)]
    rfl
end Go.Proofs.Ytndcjleadggibaa.Nm

namespace Go.Proofs.Ytndcjleadggibaa.Rd
open Go.RowKit Go.PlainAid Go.Proofs.Ytndcjleadggibaa.Base Go.Proofs.Ytndcjleadggibaa.Oct Go.Proofs.Ytndcjleadggibaa.Sl Go.Proofs.Ytndcjleadggibaa.Nm
set_option linter.unusedVariables false

theorem zeroAt_next1 {s : ByteArray} {i : Nat} {z : Option Nat} (hz : zeroAt s i = z) (h : i < s.size) (h0 : bt s i ≠ 0) : zeroAt s (i + 1 + (bt s i).toNat) = z := by rw [← zeroAt_next h h0]; exact hz
theorem slice_ab (s : ByteArray) (a b : Nat) (h : a ≤ b) (hb : b ≤ s.size) (w : World) : (Instr.slice 9 (.string s) (some (.int .i64 (a : Int))) (some (.int .i64 (b : Int))) none).run Try.prog w = .ok (.string (s.extract a b)) w := by
  have := run_slice_string (P := Try.prog) w 9 s .i64 .i64 (a : Int) (b : Int) Try.underlying9 (by omega) (by omega) (by omega)
  simpa using this
theorem step1 {s : ByteArray} {i : Nat} (hs : s.size ≤ 9223372036854775000) (h : i < s.size) : wrap64 ((i : Int) + wrap64 (1 + bt s i)) = ((i + 1 + (bt s i).toNat : Nat) : Int) := by
  have := bt_nonneg s i; have := bt_le s i
  rw [w64 (x := 1 + bt s i) (by omega) (by omega), w64 (by omega) (by omega)]; omega
theorem step2 {s : ByteArray} {i : Nat} (hs : s.size ≤ 9223372036854775000) (h : i < s.size) : wrap64 ((i : Int) + 1 + bt s i) = ((i + 1 + (bt s i).toNat : Nat) : Int) := by
  have := bt_nonneg s i; have := bt_le s i
  rw [w64 (by omega) (by omega)]; omega
theorem step3 {s : ByteArray} {i : Nat} (hs : s.size ≤ 9223372036854775000) (h : i < s.size) : wrap64 (wrap64 ((i : Int) + bt s i) + 1) = ((i + 1 + (bt s i).toNat : Nat) : Int) := by
  have := bt_nonneg s i; have := bt_le s i
  rw [w64 (x := (i : Int) + bt s i) (by omega) (by omega), w64 (by omega) (by omega)]; omega

set_option maxHeartbeats 1000000 in
theorem ends (s : ByteArray) (w : World) (hs : s.size ≤ 9223372036854775000) : Calls Try.prog 63 #[.string s] w fun e w' => e = .returned (.int .i64 (endN s 0)) ∧ Below w.heap.size w w' := by
  go_enter Try.func63, Try.ntmps63
  go_wp2
  go_loopg [3] (s.size + 256) (fun k v3 wr => ∃ i : Nat, v3 = .int .i64 i ∧ i + k ≤ s.size + 256 ∧ s.size + 256 ≤ i + k ∧ i ≤ s.size + 255 ∧ zeroAt s i = zeroAt s 0 ∧ w = wr)
  case atStart => exact ⟨0, rfl, by omega, by omega, by omega, rfl, rfl⟩
  case round =>
    obtain ⟨i, rfl, hk1, hk2, hk3, hZ, rfl⟩ := hrel
    have HZ := Lib.hid hZ
    clear hZ
    by_cases hlt : i < s.size
    · have q0 : decide ((i : Int) < s.size) = true := by simp; omega
      by_cases h255 : i < 255
      · have q2 : decide ((i : Int) < 255) = true := by simp; omega
        have hb := get_bt s
        have wb : wrap64 (bt s i) = bt s i := w64 (by have := bt_nonneg s i; omega) (by have := bt_le s i; omega)
        have w1 : wrap64 ((i : Int) + 1) = ((i + 1 : Nat) : Int) := by rw [w64 (by omega) (by omega)]; omega
        by_cases hz : bt s i = 0
        · have q1 : (bt s i == 0) = true := by simp [hz]
          have H0 := Lib.hid hz
          clear hz
          cases hm : nameB (s.extract 0 (i + 1)) with
          | true =>
            go_wp2_with fail
            refine (may _ _).mono ?_
            rintro e w2 ⟨rfl, hb2⟩
            rw [hm]
            go_wp2
            go_ret
            exact ⟨by rw [endN_of HZ.out hlt H0.out, hm]; simp, hb2⟩
          | false =>
            go_wp2_with fail
            refine (may _ _).mono ?_
            rintro e w2 ⟨rfl, hb2⟩
            rw [hm]
            go_wp2
            go_ret
            exact ⟨by rw [endN_of HZ.out hlt H0.out, hm]; simp, hb2⟩
        · have q1 : (bt s i == 0) = false := by simp [hz]
          have H0 := Lib.hid hz
          clear hz
          have ws := step1 hs hlt
          go_wp2
          go_roundg (gk - 1 - (bt s i).toNat)
          case measure => omega
          case rel =>
            have := bt_nonneg s i; have := bt_le s i
            exact ⟨i + 1 + (bt s i).toNat, congrArg _ ws, by omega, by omega, by omega, zeroAt_next1 HZ.out hlt H0.out, rfl⟩
      · have q2 : decide ((i : Int) < 255) = false := by simp; omega
        go_wp2
        go_ret
        exact ⟨by rw [endN_far HZ.out (by omega)]; rfl, Below.refl _ _⟩
    · have q0 : decide ((i : Int) < s.size) = false := by simp; omega
      go_wp2
      go_ret
      exact ⟨by rw [endN_out HZ.out (by omega)]; rfl, Below.refl _ _⟩
set_option maxRecDepth 100000 in
set_option maxHeartbeats 1000000 in
theorem whole (s : ByteArray) (a : Nat) (w : World) (hs : s.size ≤ 9223372036854775000) (ha : a ≤ s.size) : Calls Try.prog 60 #[.string s, .int .i64 a] w fun e w' => e = .returned (.int .i64 (endN s a)) ∧ Below w.heap.size w w' := by
  go_enter Try.func60, Try.ntmps60
  go_wp2
  go_loopg [5, 6] (s.size + 256 - a) (fun k v5 v6 wr => ∃ i : Nat, v5 = .int .i64 i ∧ i + k ≤ s.size + 256 ∧ s.size + 256 ≤ i + k ∧ i ≤ s.size + 255 ∧ a ≤ i ∧ zeroAt s i = zeroAt s a ∧ w = wr)
  case atStart => exact ⟨a, rfl, by omega, by omega, by omega, by omega, rfl, rfl⟩
  case round =>
    obtain ⟨i, rfl, hk1, hk2, hk3, hai, hZ, rfl⟩ := hrel
    have HZ := Lib.hid hZ
    clear hZ
    by_cases hlt : i < s.size
    · have q0 : decide ((i : Int) < s.size) = true := by simp; omega
      have hb := get_bt s
      have wb : wrap64 (bt s i) = bt s i := w64 (by have := bt_nonneg s i; omega) (by have := bt_le s i; omega)
      have w1 : wrap64 ((i : Int) + 1) = ((i + 1 : Nat) : Int) := by rw [w64 (by omega) (by omega)]; omega
      have hsl := slice_ab s a (i + 1) (by omega) (by omega) w
      rw [show ((i + 1 : Nat) : Int) = (i : Int) + 1 from by omega] at hsl
      by_cases hz : bt s i = 0
      · have q1 : (bt s i == 0) = true := by simp [hz]
        have H0 := Lib.hid hz
        clear hz
        cases hm : nameB (s.extract a (i + 1)) with
        | true =>
          go_wp2_with fail
          refine (rmay _ _).mono ?_
          rintro e w2 ⟨rfl, hb2⟩
          rw [hm]
          go_wp2
          go_ret
          exact ⟨by rw [endN_of HZ.out hlt H0.out, hm]; simp, hb2⟩
        | false =>
          go_wp2_with fail
          refine (rmay _ _).mono ?_
          rintro e w2 ⟨rfl, hb2⟩
          rw [hm]
          go_wp2
          go_ret
          exact ⟨by rw [endN_of HZ.out hlt H0.out, hm]; simp, hb2⟩
      · have q1 : (bt s i == 0) = false := by simp [hz]
        have H0 := Lib.hid hz
        clear hz
        have ws := step3 hs hlt
        go_wp2
        go_roundg (gk - 1 - (bt s i).toNat)
        case measure => omega
        case rel =>
          have := bt_nonneg s i; have := bt_le s i
          exact ⟨i + 1 + (bt s i).toNat, congrArg _ ws, by omega, by omega, by omega, by omega, zeroAt_next1 HZ.out hlt H0.out, rfl⟩
    · have q0 : decide ((i : Int) < s.size) = false := by simp; omega
      go_wp2
      go_ret
      exact ⟨by rw [endN_out HZ.out (by omega)]; rfl, Below.refl _ _⟩

/-- From a place on: do texts follow up to the end? -/
def textsAt (s : ByteArray) (i : Nat) : Bool :=
  if i < s.size then textsAt s (i + 1 + (bt s i).toNat) else decide (i = s.size)
termination_by s.size - i
theorem textsAt_next {s : ByteArray} {i : Nat} (h : i < s.size) : textsAt s i = textsAt s (i + 1 + (bt s i).toNat) := by rw [textsAt, if_pos h]
theorem textsAt_next1 {s : ByteArray} {i : Nat} {z : Bool} (hz : textsAt s i = z) (h : i < s.size) : textsAt s (i + 1 + (bt s i).toNat) = z := by rw [← textsAt_next h]; exact hz
theorem textsAt_end {s : ByteArray} {i : Nat} (h : ¬ i < s.size) : textsAt s i = decide (i = s.size) := by rw [textsAt, if_neg h]
theorem isEmpty_no {s : ByteArray} (h : ¬ s.size = 0) : s.toList.isEmpty = false := by
  rw [ByteArray.toList_eq]
  cases e : s.data.toList with
  | nil => exact absurd (by rw [← len_data, e]; rfl) h
  | cons a b => rfl
theorem isEmpty_yes {s : ByteArray} (h : s.size = 0) : s.toList.isEmpty = true := by
  rw [ByteArray.toList_eq]
  cases e : s.data.toList with
  | nil => rfl
  | cons a b => exact absurd h (by rw [← len_data, e]; simp)
/-- One or more texts? -/
def textsB (s : ByteArray) : Bool := decide (0 < s.size) && textsAt s 0

set_option maxHeartbeats 1000000 in
theorem texts (s : ByteArray) (w : World) (hs : s.size ≤ 9223372036854775000) : Calls Try.prog 59 #[.string s] w fun e w' => e = .returned (.bool (textsB s)) ∧ w = w' := by
  go_enter Try.func59, Try.ntmps59
  go_wp2
  go_loopg [3] (s.size + 256) (fun k v3 wr => ∃ i : Nat, v3 = .int .i64 i ∧ i + k ≤ s.size + 256 ∧ s.size + 256 ≤ i + k ∧ i ≤ s.size + 255 ∧ textsAt s i = textsAt s 0 ∧ w = wr)
  case atStart => exact ⟨0, rfl, by omega, by omega, by omega, rfl, rfl⟩
  case round =>
    obtain ⟨i, rfl, hk1, hk2, hk3, hZ, rfl⟩ := hrel
    have HZ := Lib.hid hZ
    clear hZ
    by_cases hlt : i < s.size
    · have q0 : decide ((i : Int) < s.size) = true := by simp; omega
      have hb := get_bt s
      have wb : wrap64 (bt s i) = bt s i := w64 (by have := bt_nonneg s i; omega) (by have := bt_le s i; omega)
      have ws := step1 hs hlt
      go_wp2
      go_roundg (gk - 1 - (bt s i).toNat)
      case measure => omega
      case rel =>
        have := bt_nonneg s i; have := bt_le s i
        exact ⟨i + 1 + (bt s i).toNat, congrArg _ ws, by omega, by omega, by omega, textsAt_next1 HZ.out hlt, rfl⟩
    · have q0 : decide ((i : Int) < s.size) = false := by simp; omega
      have e1 : textsB s = (decide (0 < s.size) && decide (i = s.size)) := by unfold textsB; rw [← HZ.out, textsAt_end hlt]
      have E := Lib.hid e1
      clear e1
      by_cases h0 : s.size = 0
      · have q1 : s.toList.isEmpty = true := isEmpty_yes h0
        have e2 : textsB s = false := by rw [E.out]; simp; omega
        go_wp2
        go_ret
        exact ⟨by rw [e2]; rfl, rfl⟩
      · have q1 : s.toList.isEmpty = false := isEmpty_no h0
        by_cases hi : i = s.size
        · have q3 : ((i : Int) == s.size) = true := by simp; omega
          have e2 : textsB s = true := by rw [E.out]; simp; omega
          go_wp2
          go_ret
          exact ⟨by rw [e2]; rfl, rfl⟩
        · have q3 : ((i : Int) == s.size) = false := by simp; omega
          have e2 : textsB s = false := by rw [E.out]; simp; omega
          go_wp2
          go_ret
          exact ⟨by rw [e2]; rfl, rfl⟩

set_option maxHeartbeats 1000000 in
theorem rtexts (s : ByteArray) (w : World) (hs : s.size ≤ 9223372036854775000) : Calls Try.prog 61 #[.string s] w fun e w' => e = .returned (.bool (textsB s)) ∧ w = w' := by
  go_enter Try.func61, Try.ntmps61
  go_wp2
  go_loopg [3] (s.size + 256) (fun k v3 wr => ∃ i : Nat, v3 = .int .i64 i ∧ i + k ≤ s.size + 256 ∧ s.size + 256 ≤ i + k ∧ i ≤ s.size + 255 ∧ textsAt s i = textsAt s 0 ∧ w = wr)
  case atStart => exact ⟨0, rfl, by omega, by omega, by omega, rfl, rfl⟩
  case round =>
    obtain ⟨i, rfl, hk1, hk2, hk3, hZ, rfl⟩ := hrel
    have HZ := Lib.hid hZ
    clear hZ
    by_cases hlt : i < s.size
    · have q0 : decide ((i : Int) < s.size) = true := by simp; omega
      have hb := get_bt s
      have wb : wrap64 (bt s i) = bt s i := w64 (by have := bt_nonneg s i; omega) (by have := bt_le s i; omega)
      have ws := step2 hs hlt
      go_wp2
      go_roundg (gk - 1 - (bt s i).toNat)
      case measure => omega
      case rel =>
        have := bt_nonneg s i; have := bt_le s i
        exact ⟨i + 1 + (bt s i).toNat, congrArg _ ws, by omega, by omega, by omega, textsAt_next1 HZ.out hlt, rfl⟩
    · have q0 : decide ((i : Int) < s.size) = false := by simp; omega
      have e1 : textsB s = (decide (0 < s.size) && decide (i = s.size)) := by unfold textsB; rw [← HZ.out, textsAt_end hlt]
      have E := Lib.hid e1
      clear e1
      by_cases hi : i = s.size
      · have q3 : ((i : Int) == s.size) = true := by simp; omega
        by_cases h0 : s.size = 0
        · have q4 : decide (0 < i) = false := by simp; omega
          have e2 : textsB s = false := by rw [E.out]; simp; omega
          have HI := Lib.hid hi
          have H0 := Lib.hid h0
          clear hi h0
          go_wp2
          go_ret
          exact ⟨by rw [e2]; rfl, rfl⟩
        · have q4 : decide (0 < i) = true := by simp; omega
          have e2 : textsB s = true := by rw [E.out]; simp; omega
          have HI := Lib.hid hi
          clear hi
          go_wp2
          go_ret
          exact ⟨by rw [e2]; rfl, rfl⟩
      · have q3 : ((i : Int) == s.size) = false := by simp; omega
        have e2 : textsB s = false := by rw [E.out]; simp; omega
        go_wp2
        go_ret
        exact ⟨by rw [e2]; rfl, rfl⟩
end Go.Proofs.Ytndcjleadggibaa.Rd

namespace Go.Proofs.Ytndcjleadggibaa.Rd
open Go.RowKit Go.PlainAid Go.Proofs.Ytndcjleadggibaa.Base Go.Proofs.Ytndcjleadggibaa.Oct Go.Proofs.Ytndcjleadggibaa.Sl Go.Proofs.Ytndcjleadggibaa.Nm
set_option linter.unusedVariables false

theorem endN_bd {s : ByteArray} {a : Nat} (h : 0 ≤ endN s a) : (a : Int) < endN s a ∧ endN s a ≤ s.size := by
  unfold endN at h ⊢
  cases hz : zeroAt s a with
  | none => rw [hz] at h; simp at h
  | some p =>
    have := zeroAt_ge _ a p (Nat.le_refl _) hz
    rw [hz] at h
    simp only at h ⊢
    split
    · omega
    · rename_i hn; rw [if_neg hn] at h; omega
theorem endN_neg {s : ByteArray} {a : Nat} (h : endN s a < 0) : endN s a = -1 := by
  unfold endN at h ⊢
  cases hz : zeroAt s a with
  | none => rfl
  | some p =>
    rw [hz] at h
    simp only at h ⊢
    split
    · rename_i hn; rw [if_pos hn] at h; omega
    · rfl
theorem bt_extract (s : ByteArray) (a i : Nat) : bt (s.extract a s.size) i = bt s (a + i) := by
  rw [bt_data, bt_data, ByteArray.data_extract, Array.toList_extract]
  congr 1
  congr 1
  simp only [List.getD_eq_getElem?_getD, List.extract_eq_take_drop, List.getElem?_take, List.getElem?_drop]
  by_cases h : i < s.size - a
  · rw [if_pos h]
  · rw [if_neg h, List.getElem?_eq_none (by rw [len_data]; omega)]
theorem zeroAt_shift (s : ByteArray) (a : Nat) (ha : a ≤ s.size) : ∀ (d i : Nat), s.size - (a + i) ≤ d → zeroAt (s.extract a s.size) i = (zeroAt s (a + i)).map (· - a)
  | 0, i, hd => by rw [zeroAt_out (by rw [ByteArray.size_extract]; omega), zeroAt_out (by omega)]; rfl
  | d + 1, i, hd => by
    by_cases hlt : a + i < s.size
    · by_cases h0 : bt s (a + i) = 0
      · rw [zeroAt_end (by rw [ByteArray.size_extract]; omega) (by rw [bt_extract]; exact h0), zeroAt_end hlt h0]
        simp
      · rw [zeroAt_next (by rw [ByteArray.size_extract]; omega) (by rw [bt_extract]; exact h0), zeroAt_next hlt h0, bt_extract, zeroAt_shift s a ha d _ (by omega)]
        rw [show a + (i + 1 + (bt s (a + i)).toNat) = a + i + 1 + (bt s (a + i)).toNat by omega]
    · rw [zeroAt_out (by rw [ByteArray.size_extract]; omega), zeroAt_out (by omega)]; rfl
theorem endN_shift (s : ByteArray) (a : Nat) (ha : a ≤ s.size) : endN (s.extract a s.size) 0 = if endN s a < 0 then -1 else endN s a - a := by
  have e := zeroAt_shift s a ha _ 0 (Nat.le_refl _)
  unfold endN
  rw [e]
  simp only [Nat.add_zero]
  cases hz : zeroAt s a with
  | none => rfl
  | some p =>
    have := zeroAt_ge _ a p (Nat.le_refl _) hz
    simp only [Option.map_some]
    have ex : (s.extract a s.size).extract 0 (p - a + 1) = s.extract a (p + 1) := by
      rw [ByteArray.extract_extract]; congr 1 <;> omega
    rw [ex]
    split
    · rw [if_neg (by omega)]; omega
    · rfl
/-- Two names, and five numbers? -/
def soaB (s : ByteArray) : Bool := decide (0 ≤ endN s 0) && (decide (0 ≤ endN s (endN s 0).toNat) && decide ((s.size : Int) = endN s (endN s 0).toNat + 20))
theorem slice_a (s : ByteArray) (a : Nat) (h : a ≤ s.size) (w : World) : (Instr.slice 9 (.string s) (some (.int .i64 (a : Int))) none none).run Try.prog w = .ok (.string (s.extract a s.size)) w := by
  have hj : 0 ≤ (a : Int) ∧ (a : Int) ≤ (s.size : Int) := by omega
  simp [Instr.slice, Instr.sliceBounds, Instr.sliceBound, asIntOf, run_underlying Try.underlying9, hj]
  try omega
set_option maxHeartbeats 1000000 in
theorem soa (s : ByteArray) (w : World) (hs : s.size ≤ 9223372036854775000) : Calls Try.prog 58 #[.string s] w fun e w' => e = .returned (.bool (soaB s)) ∧ Below w.heap.size w w' := by
  have hB := @endN_bd s 0
  have hN := @endN_neg s 0
  by_cases h : endN s 0 < 0
  · have e1 : soaB s = false := by unfold soaB; simp; omega
    have q : endN s 0 = -1 := hN h
    go_enter Try.func58, Try.ntmps58
    go_wp2_with fail
    refine (ends s _ hs).mono ?_
    rintro e w1 ⟨rfl, hb1⟩
    rw [q]
    go_wp2
    go_ret
    exact ⟨by rw [e1]; rfl, hb1⟩
  · obtain ⟨n, hn⟩ : ∃ n : Nat, endN s 0 = n := ⟨(endN s 0).toNat, by omega⟩
    have hnb := hB (by omega)
    rw [hn] at hnb
    have hle : n ≤ s.size := by omega
    have q1 : decide ((n : Int) < 0) = false := by simp
    have hsh := endN_shift s n hle
    have hB2 := @endN_bd s n
    have hsz : (s.extract n s.size).size ≤ 9223372036854775000 := by rw [ByteArray.size_extract]; omega
    have e1 : soaB s = (decide (0 ≤ endN s n) && decide ((s.size : Int) = endN s n + 20)) := by unfold soaB; rw [hn]; simp
    by_cases h2 : endN s n < 0
    · rw [if_pos h2] at hsh
      have e2 : soaB s = false := by rw [e1]; simp; omega
      go_enter Try.func58, Try.ntmps58
      go_wp2_with fail
      refine (ends s _ hs).mono ?_
      rintro e w1 ⟨rfl, hb1⟩
      rw [hn]
      have hsl := slice_a s n hle w1
      go_wp2_with fail
      refine (ends _ _ hsz).mono ?_
      rintro e w2 ⟨rfl, hb2⟩
      rw [hsh]
      go_wp2
      go_ret
      exact ⟨by rw [e2]; rfl, below_next hb1 hb2⟩
    · obtain ⟨m, hm⟩ : ∃ m : Nat, endN s n = m := ⟨(endN s n).toNat, by omega⟩
      have hmb := hB2 (by omega)
      rw [if_neg h2, hm] at hsh
      rw [hm] at hmb
      obtain ⟨k, hk⟩ : ∃ k : Nat, (m : Int) - n = k := ⟨m - n, by omega⟩
      rw [hk] at hsh
      have q2 : decide ((k : Int) < 0) = false := by simp
      have w1' : wrap64 ((s.size : Int) - n) = (s.size : Int) - n := w64 (by omega) (by omega)
      have w2' : wrap64 ((s.size : Int) - n - k) = (s.size : Int) - n - k := w64 (by omega) (by omega)
      have e2 : soaB s = ((s.size : Int) - n - k == 20) := by rw [e1, hm, Bool.eq_iff_iff]; simp; omega
      have hn' := hn
      clear hmb hB hB2 hN e1 h h2 hm hn hnb hk
      have E2 := Lib.hid e2
      clear e2
      go_enter Try.func58, Try.ntmps58
      go_wp2_with fail
      refine (ends s _ hs).mono ?_
      rintro e w1 ⟨rfl, hb1⟩
      rw [hn']
      have hsl := slice_a s n hle w1
      go_wp2_with fail
      refine (ends _ _ hsz).mono ?_
      rintro e w2 ⟨rfl, hb2⟩
      rw [hsh]
      go_wp2
      go_ret
      exact ⟨by rw [E2.out]; rfl, below_next hb1 hb2⟩
/-- May data be for a type? -/
def mayD (t : Int) (s : ByteArray) : Bool :=
  if t < 1 then false else if 65535 < t then false else if 65535 < s.size then false else
  if t = 1 then decide (s.size = 4) else if t = 28 then decide (s.size = 16) else
  if t = 2 then nameB s else if t = 5 then nameB s else if t = 12 then nameB s else
  if t = 15 then decide (2 ≤ s.size) && nameB (s.extract 2 s.size) else
  if t = 6 then soaB s else if t = 16 then textsB s else true
end Go.Proofs.Ytndcjleadggibaa.Rd

namespace Go.Proofs.Ytndcjleadggibaa.Rd
open Go.RowKit Go.PlainAid Go.Proofs.Ytndcjleadggibaa.Base Go.Proofs.Ytndcjleadggibaa.Oct Go.Proofs.Ytndcjleadggibaa.Sl Go.Proofs.Ytndcjleadggibaa.Nm
set_option linter.unusedVariables false

theorem mayD_body {t : Int} {s : ByteArray} (h1 : ¬ t < 1) (h2 : ¬ 65535 < t) (h3 : ¬ 65535 < s.size) : mayD t s =
    if t = 1 then decide (s.size = 4) else if t = 28 then decide (s.size = 16) else
    if t = 2 then nameB s else if t = 5 then nameB s else if t = 12 then nameB s else
    if t = 15 then decide (2 ≤ s.size) && nameB (s.extract 2 s.size) else
    if t = 6 then soaB s else if t = 16 then textsB s else true := by
  unfold mayD; rw [if_neg h1, if_neg h2, if_neg h3]
theorem nameB_small {s : ByteArray} (h : s.size = 0) : nameB s = false := by
  unfold nameB; rw [nameAt_out (by omega)]; simp

set_option maxRecDepth 100000 in
set_option maxHeartbeats 1000000 in
theorem dmayOut (t : Int) (s : ByteArray) (w : World) (hs : s.size ≤ 9223372036854775000) (h : t < 1 ∨ 65535 < t ∨ 65535 < s.size) : Calls Try.prog 33 #[.int .i64 t, .string s] w fun e w' => e = .returned (.bool (mayD t s)) ∧ Below w.heap.size w w' := by
  have e1 : mayD t s = false := by
    unfold mayD
    by_cases h1 : t < 1
    · rw [if_pos h1]
    · rw [if_neg h1]
      by_cases h2 : 65535 < t
      · rw [if_pos h2]
      · rw [if_neg h2, if_pos (by omega)]
  by_cases h1 : t < 1
  · have q1 : decide (t < 1) = true := decide_eq_true h1
    clear h
    go_enter Try.func33, Try.ntmps33
    go_wp2
    go_ret
    exact ⟨by first | rfl | (rw [e1]; rfl), Below.refl _ _⟩
  · have q1 : decide (t < 1) = false := decide_eq_false h1
    by_cases h2 : 65535 < t
    · have q2 : decide (65535 < t) = true := decide_eq_true h2
      clear h
      go_enter Try.func33, Try.ntmps33
      go_wp2
      go_ret
      exact ⟨by first | rfl | (rw [e1]; rfl), Below.refl _ _⟩
    · have q2 : decide (65535 < t) = false := decide_eq_false h2
      have q3 : decide ((65535 : Int) < s.size) = true := by simp; omega
      clear h
      go_enter Try.func33, Try.ntmps33
      go_wp2
      go_ret
      exact ⟨by first | rfl | (rw [e1]; rfl), Below.refl _ _⟩

set_option maxRecDepth 100000 in
set_option maxHeartbeats 1000000 in
theorem dmay1 (s : ByteArray) (w : World) (hs : s.size ≤ 9223372036854775000) (h3 : ¬ 65535 < s.size) : Calls Try.prog 33 #[.int .i64 1, .string s] w fun e w' => e = .returned (.bool (mayD 1 s)) ∧ Below w.heap.size w w' := by
  have q3 : decide ((65535 : Int) < s.size) = false := by simp; omega
  have hm : mayD 1 s = _ := mayD_body (t := 1) (by decide) (by decide) h3
  have e1 : mayD 1 s = ((s.size : Int) == 4) := by rw [hm, Bool.eq_iff_iff]; simp; omega
  have E := Lib.hid e1
  clear hm e1
  go_enter Try.func33, Try.ntmps33
  go_wp2
  go_ret
  exact ⟨by rw [E.out]; rfl, Below.refl _ _⟩

set_option maxRecDepth 100000 in
set_option maxHeartbeats 1000000 in
theorem dmay28 (s : ByteArray) (w : World) (hs : s.size ≤ 9223372036854775000) (h3 : ¬ 65535 < s.size) : Calls Try.prog 33 #[.int .i64 28, .string s] w fun e w' => e = .returned (.bool (mayD 28 s)) ∧ Below w.heap.size w w' := by
  have q3 : decide ((65535 : Int) < s.size) = false := by simp; omega
  have hm : mayD 28 s = _ := mayD_body (t := 28) (by decide) (by decide) h3
  have e1 : mayD 28 s = ((s.size : Int) == 16) := by rw [hm, Bool.eq_iff_iff]; simp; omega
  have E := Lib.hid e1
  clear hm e1
  go_enter Try.func33, Try.ntmps33
  go_wp2
  go_ret
  exact ⟨by rw [E.out]; rfl, Below.refl _ _⟩

set_option maxRecDepth 100000 in
set_option maxHeartbeats 1000000 in
theorem dmay2 (s : ByteArray) (w : World) (hs : s.size ≤ 9223372036854775000) (h3 : ¬ 65535 < s.size) : Calls Try.prog 33 #[.int .i64 2, .string s] w fun e w' => e = .returned (.bool (mayD 2 s)) ∧ Below w.heap.size w w' := by
  have q3 : decide ((65535 : Int) < s.size) = false := by simp; omega
  have hm : mayD 2 s = _ := mayD_body (t := 2) (by decide) (by decide) h3
  have e1 : mayD 2 s = nameB s := by rw [hm]; simp
  have E := Lib.hid e1
  clear hm e1
  go_enter Try.func33, Try.ntmps33
  go_wp2_with fail
  refine (may s _).mono ?_
  rintro e w1 ⟨rfl, hb1⟩
  go_wp2
  go_ret
  exact ⟨by rw [E.out]; rfl, hb1⟩

set_option maxRecDepth 100000 in
set_option maxHeartbeats 1000000 in
theorem dmay5 (s : ByteArray) (w : World) (hs : s.size ≤ 9223372036854775000) (h3 : ¬ 65535 < s.size) : Calls Try.prog 33 #[.int .i64 5, .string s] w fun e w' => e = .returned (.bool (mayD 5 s)) ∧ Below w.heap.size w w' := by
  have q3 : decide ((65535 : Int) < s.size) = false := by simp; omega
  have hm : mayD 5 s = _ := mayD_body (t := 5) (by decide) (by decide) h3
  have e1 : mayD 5 s = nameB s := by rw [hm]; simp
  have E := Lib.hid e1
  clear hm e1
  go_enter Try.func33, Try.ntmps33
  go_wp2_with fail
  refine (may s _).mono ?_
  rintro e w1 ⟨rfl, hb1⟩
  go_wp2
  go_ret
  exact ⟨by rw [E.out]; rfl, hb1⟩

set_option maxRecDepth 100000 in
set_option maxHeartbeats 1000000 in
theorem dmay12 (s : ByteArray) (w : World) (hs : s.size ≤ 9223372036854775000) (h3 : ¬ 65535 < s.size) : Calls Try.prog 33 #[.int .i64 12, .string s] w fun e w' => e = .returned (.bool (mayD 12 s)) ∧ Below w.heap.size w w' := by
  have q3 : decide ((65535 : Int) < s.size) = false := by simp; omega
  have hm : mayD 12 s = _ := mayD_body (t := 12) (by decide) (by decide) h3
  have e1 : mayD 12 s = nameB s := by rw [hm]; simp
  have E := Lib.hid e1
  clear hm e1
  go_enter Try.func33, Try.ntmps33
  go_wp2_with fail
  refine (may s _).mono ?_
  rintro e w1 ⟨rfl, hb1⟩
  go_wp2
  go_ret
  exact ⟨by rw [E.out]; rfl, hb1⟩

set_option maxRecDepth 100000 in
set_option maxHeartbeats 1000000 in
theorem dmay15 (s : ByteArray) (w : World) (hs : s.size ≤ 9223372036854775000) (h3 : ¬ 65535 < s.size) : Calls Try.prog 33 #[.int .i64 15, .string s] w fun e w' => e = .returned (.bool (mayD 15 s)) ∧ Below w.heap.size w w' := by
  have q3 : decide ((65535 : Int) < s.size) = false := by simp; omega
  have hm : mayD 15 s = _ := mayD_body (t := 15) (by decide) (by decide) h3
  by_cases h2 : 2 ≤ s.size
  · have q4 : decide ((2 : Int) ≤ s.size) = true := by simp; omega
    have e1 : mayD 15 s = nameB (s.extract 2 s.size) := by rw [hm]; simp [h2]
    have E := Lib.hid e1
    have hsl := slice_a s 2 h2 w
    clear hm e1
    go_enter Try.func33, Try.ntmps33
    go_wp2_with fail
    refine (may _ _).mono ?_
    rintro e w1 ⟨rfl, hb1⟩
    go_wp2
    go_ret
    exact ⟨by rw [E.out]; rfl, hb1⟩
  · have q4 : decide ((2 : Int) ≤ s.size) = false := by simp; omega
    have e1 : mayD 15 s = false := by rw [hm]; simp [h2]
    have E := Lib.hid e1
    clear hm e1
    go_enter Try.func33, Try.ntmps33
    go_wp2
    go_ret
    exact ⟨by rw [E.out]; rfl, Below.refl _ _⟩

set_option maxRecDepth 100000 in
set_option maxHeartbeats 1000000 in
theorem dmay6 (s : ByteArray) (w : World) (hs : s.size ≤ 9223372036854775000) (h3 : ¬ 65535 < s.size) : Calls Try.prog 33 #[.int .i64 6, .string s] w fun e w' => e = .returned (.bool (mayD 6 s)) ∧ Below w.heap.size w w' := by
  have q3 : decide ((65535 : Int) < s.size) = false := by simp; omega
  have hm : mayD 6 s = _ := mayD_body (t := 6) (by decide) (by decide) h3
  have e1 : mayD 6 s = soaB s := by rw [hm]; simp
  have E := Lib.hid e1
  clear hm e1
  go_enter Try.func33, Try.ntmps33
  go_wp2_with fail
  refine (soa s _ hs).mono ?_
  rintro e w1 ⟨rfl, hb1⟩
  go_wp2
  go_ret
  exact ⟨by rw [E.out]; rfl, hb1⟩

set_option maxRecDepth 100000 in
set_option maxHeartbeats 1000000 in
theorem dmay16 (s : ByteArray) (w : World) (hs : s.size ≤ 9223372036854775000) (h3 : ¬ 65535 < s.size) : Calls Try.prog 33 #[.int .i64 16, .string s] w fun e w' => e = .returned (.bool (mayD 16 s)) ∧ Below w.heap.size w w' := by
  have q3 : decide ((65535 : Int) < s.size) = false := by simp; omega
  have hm : mayD 16 s = _ := mayD_body (t := 16) (by decide) (by decide) h3
  have e1 : mayD 16 s = textsB s := by rw [hm]; simp
  have E := Lib.hid e1
  clear hm e1
  go_enter Try.func33, Try.ntmps33
  go_wp2_with fail
  refine (texts s _ hs).mono ?_
  rintro e w1 ⟨rfl, rfl⟩
  go_wp2
  go_ret
  exact ⟨by rw [E.out]; rfl, Below.refl _ _⟩

set_option maxRecDepth 100000 in
set_option maxHeartbeats 1000000 in
theorem dmayRest (t : Int) (s : ByteArray) (w : World) (hs : s.size ≤ 9223372036854775000) (h1 : ¬ t < 1) (h2 : ¬ 65535 < t) (h3 : ¬ 65535 < s.size) (k1 : ¬ t = 1) (k28 : ¬ t = 28) (k2 : ¬ t = 2) (k5 : ¬ t = 5) (k12 : ¬ t = 12) (k15 : ¬ t = 15) (k6 : ¬ t = 6) (k16 : ¬ t = 16) : Calls Try.prog 33 #[.int .i64 t, .string s] w fun e w' => e = .returned (.bool (mayD t s)) ∧ Below w.heap.size w w' := by
  have e1 : mayD t s = true := by rw [mayD_body h1 h2 h3]; simp [k1, k28, k2, k5, k12, k15, k6, k16]
  have p1 : decide (t < 1) = false := decide_eq_false h1
  have p2 : decide (65535 < t) = false := decide_eq_false h2
  have p3 : decide ((65535 : Int) < s.size) = false := by simp; omega
  have q1 : (t == 1) = false := by simp [k1]
  have q28 : (t == 28) = false := by simp [k28]
  have q2 : (t == 2) = false := by simp [k2]
  have q5 : (t == 5) = false := by simp [k5]
  have q12 : (t == 12) = false := by simp [k12]
  have q15 : (t == 15) = false := by simp [k15]
  have q6 : (t == 6) = false := by simp [k6]
  have q16 : (t == 16) = false := by simp [k16]
  clear h1 h2 h3 k1 k28 k2 k5 k12 k15 k6 k16
  go_enter Try.func33, Try.ntmps33
  go_wp2
  go_ret
  exact ⟨by first | rfl | (rw [e1]; rfl), Below.refl _ _⟩

theorem dmay (t : Int) (s : ByteArray) (w : World) (hs : s.size ≤ 9223372036854775000) : Calls Try.prog 33 #[.int .i64 t, .string s] w fun e w' => e = .returned (.bool (mayD t s)) ∧ Below w.heap.size w w' := by
  by_cases h1 : t < 1
  · exact dmayOut t s w hs (.inl h1)
  by_cases h2 : 65535 < t
  · exact dmayOut t s w hs (.inr (.inl h2))
  by_cases h3 : 65535 < s.size
  · exact dmayOut t s w hs (.inr (.inr h3))
  by_cases k1 : t = 1
  · subst k1; exact dmay1 s w hs h3
  by_cases k28 : t = 28
  · subst k28; exact dmay28 s w hs h3
  by_cases k2 : t = 2
  · subst k2; exact dmay2 s w hs h3
  by_cases k5 : t = 5
  · subst k5; exact dmay5 s w hs h3
  by_cases k12 : t = 12
  · subst k12; exact dmay12 s w hs h3
  by_cases k15 : t = 15
  · subst k15; exact dmay15 s w hs h3
  by_cases k6 : t = 6
  · subst k6; exact dmay6 s w hs h3
  by_cases k16 : t = 16
  · subst k16; exact dmay16 s w hs h3
  exact dmayRest t s w hs h1 h2 h3 k1 k28 k2 k5 k12 k15 k6 k16

set_option maxRecDepth 100000 in
set_option maxHeartbeats 1000000 in
theorem rdmayOut (t : Int) (s : ByteArray) (w : World) (hs : s.size ≤ 9223372036854775000) (h : t < 1 ∨ 65535 < t ∨ 65535 < s.size) : Calls Try.prog 34 #[.int .i64 t, .string s] w fun e w' => e = .returned (.bool (mayD t s)) ∧ Below w.heap.size w w' := by
  have e1 : mayD t s = false := by
    unfold mayD
    by_cases h1 : t < 1
    · rw [if_pos h1]
    · rw [if_neg h1]
      by_cases h2 : 65535 < t
      · rw [if_pos h2]
      · rw [if_neg h2, if_pos (by omega)]
  by_cases h1 : t < 1
  · have q1 : decide (t < 1) = true := decide_eq_true h1
    clear h
    go_enter Try.func34, Try.ntmps34
    go_wp2
    go_ret
    exact ⟨by first | rfl | (rw [e1]; rfl), Below.refl _ _⟩
  · have q1 : decide (t < 1) = false := decide_eq_false h1
    by_cases h2 : 65535 < t
    · have q2 : decide (65535 < t) = true := decide_eq_true h2
      clear h
      go_enter Try.func34, Try.ntmps34
      go_wp2
      go_ret
      exact ⟨by first | rfl | (rw [e1]; rfl), Below.refl _ _⟩
    · have q2 : decide (65535 < t) = false := decide_eq_false h2
      have q3 : decide ((65535 : Int) < s.size) = true := by simp; omega
      clear h
      go_enter Try.func34, Try.ntmps34
      go_wp2
      go_ret
      exact ⟨by first | rfl | (rw [e1]; rfl), Below.refl _ _⟩

set_option maxRecDepth 100000 in
set_option maxHeartbeats 1000000 in
theorem rdmay1 (s : ByteArray) (w : World) (hs : s.size ≤ 9223372036854775000) (h3 : ¬ 65535 < s.size) : Calls Try.prog 34 #[.int .i64 1, .string s] w fun e w' => e = .returned (.bool (mayD 1 s)) ∧ Below w.heap.size w w' := by
  have q3 : decide ((65535 : Int) < s.size) = false := by simp; omega
  have hm : mayD 1 s = _ := mayD_body (t := 1) (by decide) (by decide) h3
  have e1 : mayD 1 s = ((s.size : Int) == 4) := by rw [hm, Bool.eq_iff_iff]; simp; omega
  have E := Lib.hid e1
  clear hm e1
  go_enter Try.func34, Try.ntmps34
  go_wp2
  go_ret
  exact ⟨by rw [E.out]; rfl, Below.refl _ _⟩

set_option maxRecDepth 100000 in
set_option maxHeartbeats 1000000 in
theorem rdmay28 (s : ByteArray) (w : World) (hs : s.size ≤ 9223372036854775000) (h3 : ¬ 65535 < s.size) : Calls Try.prog 34 #[.int .i64 28, .string s] w fun e w' => e = .returned (.bool (mayD 28 s)) ∧ Below w.heap.size w w' := by
  have q3 : decide ((65535 : Int) < s.size) = false := by simp; omega
  have hm : mayD 28 s = _ := mayD_body (t := 28) (by decide) (by decide) h3
  have e1 : mayD 28 s = ((s.size : Int) == 16) := by rw [hm, Bool.eq_iff_iff]; simp; omega
  have E := Lib.hid e1
  clear hm e1
  go_enter Try.func34, Try.ntmps34
  go_wp2
  go_ret
  exact ⟨by rw [E.out]; rfl, Below.refl _ _⟩

set_option maxRecDepth 100000 in
set_option maxHeartbeats 1000000 in
theorem rdmay2 (s : ByteArray) (w : World) (hs : s.size ≤ 9223372036854775000) (h3 : ¬ 65535 < s.size) : Calls Try.prog 34 #[.int .i64 2, .string s] w fun e w' => e = .returned (.bool (mayD 2 s)) ∧ Below w.heap.size w w' := by
  have q3 : decide ((65535 : Int) < s.size) = false := by simp; omega
  have hm : mayD 2 s = _ := mayD_body (t := 2) (by decide) (by decide) h3
  have e1 : mayD 2 s = nameB s := by rw [hm]; simp
  have E := Lib.hid e1
  clear hm e1
  go_enter Try.func34, Try.ntmps34
  go_wp2_with fail
  refine (rmay s _).mono ?_
  rintro e w1 ⟨rfl, hb1⟩
  go_wp2
  go_ret
  exact ⟨by rw [E.out]; rfl, hb1⟩

set_option maxRecDepth 100000 in
set_option maxHeartbeats 1000000 in
theorem rdmay5 (s : ByteArray) (w : World) (hs : s.size ≤ 9223372036854775000) (h3 : ¬ 65535 < s.size) : Calls Try.prog 34 #[.int .i64 5, .string s] w fun e w' => e = .returned (.bool (mayD 5 s)) ∧ Below w.heap.size w w' := by
  have q3 : decide ((65535 : Int) < s.size) = false := by simp; omega
  have hm : mayD 5 s = _ := mayD_body (t := 5) (by decide) (by decide) h3
  have e1 : mayD 5 s = nameB s := by rw [hm]; simp
  have E := Lib.hid e1
  clear hm e1
  go_enter Try.func34, Try.ntmps34
  go_wp2_with fail
  refine (rmay s _).mono ?_
  rintro e w1 ⟨rfl, hb1⟩
  go_wp2
  go_ret
  exact ⟨by rw [E.out]; rfl, hb1⟩

set_option maxRecDepth 100000 in
set_option maxHeartbeats 1000000 in
theorem rdmay12 (s : ByteArray) (w : World) (hs : s.size ≤ 9223372036854775000) (h3 : ¬ 65535 < s.size) : Calls Try.prog 34 #[.int .i64 12, .string s] w fun e w' => e = .returned (.bool (mayD 12 s)) ∧ Below w.heap.size w w' := by
  have q3 : decide ((65535 : Int) < s.size) = false := by simp; omega
  have hm : mayD 12 s = _ := mayD_body (t := 12) (by decide) (by decide) h3
  have e1 : mayD 12 s = nameB s := by rw [hm]; simp
  have E := Lib.hid e1
  clear hm e1
  go_enter Try.func34, Try.ntmps34
  go_wp2_with fail
  refine (rmay s _).mono ?_
  rintro e w1 ⟨rfl, hb1⟩
  go_wp2
  go_ret
  exact ⟨by rw [E.out]; rfl, hb1⟩

set_option maxRecDepth 100000 in
set_option maxHeartbeats 1000000 in
theorem rdmay15 (s : ByteArray) (w : World) (hs : s.size ≤ 9223372036854775000) (h3 : ¬ 65535 < s.size) : Calls Try.prog 34 #[.int .i64 15, .string s] w fun e w' => e = .returned (.bool (mayD 15 s)) ∧ Below w.heap.size w w' := by
  have q3 : decide ((65535 : Int) < s.size) = false := by simp; omega
  have hm : mayD 15 s = _ := mayD_body (t := 15) (by decide) (by decide) h3
  by_cases h2 : 2 < s.size
  · have q4 : decide (2 < s.size) = true := decide_eq_true h2
    have e1 : mayD 15 s = nameB (s.extract 2 s.size) := by rw [hm]; simp; omega
    have E := Lib.hid e1
    have hsl := slice_a s 2 (by omega) w
    clear hm e1
    go_enter Try.func34, Try.ntmps34
    go_wp2_with fail
    refine (rmay _ _).mono ?_
    rintro e w1 ⟨rfl, hb1⟩
    go_wp2
    go_ret
    exact ⟨by rw [E.out]; rfl, hb1⟩
  · have q4 : decide (2 < s.size) = false := decide_eq_false h2
    have e0 : nameB (s.extract 2 s.size) = false := nameB_small (by rw [ByteArray.size_extract]; omega)
    have e1 : mayD 15 s = false := by rw [hm, e0]; simp
    have E := Lib.hid e1
    clear hm e1 e0
    go_enter Try.func34, Try.ntmps34
    go_wp2
    go_ret
    exact ⟨by rw [E.out]; rfl, Below.refl _ _⟩

set_option maxRecDepth 100000 in
set_option maxHeartbeats 1000000 in
theorem rdmay6 (s : ByteArray) (w : World) (hs : s.size ≤ 9223372036854775000) (h3 : ¬ 65535 < s.size) : Calls Try.prog 34 #[.int .i64 6, .string s] w fun e w' => e = .returned (.bool (mayD 6 s)) ∧ Below w.heap.size w w' := by
  have q3 : decide ((65535 : Int) < s.size) = false := by simp; omega
  have hm : mayD 6 s = _ := mayD_body (t := 6) (by decide) (by decide) h3
  have e0 : mayD 6 s = soaB s := by rw [hm]; simp
  have hB := @endN_bd s 0
  have hN := @endN_neg s 0
  clear hm
  by_cases h : endN s 0 < 0
  · have e1 : mayD 6 s = false := by rw [e0]; unfold soaB; simp; omega
    have q : endN s 0 = -1 := hN h
    have E := Lib.hid e1
    clear e1 e0 h hB hN
    go_enter Try.func34, Try.ntmps34
    go_wp2_with fail
    refine (whole s 0 _ hs (by omega)).mono ?_
    rintro e w1 ⟨rfl, hb1⟩
    rw [q]
    go_wp2
    go_ret
    exact ⟨by rw [E.out]; rfl, hb1⟩
  · obtain ⟨n, hn⟩ : ∃ n : Nat, endN s 0 = n := ⟨(endN s 0).toNat, by omega⟩
    have hnb := hB (by omega)
    rw [hn] at hnb
    have hle : n ≤ s.size := by omega
    have hB2 := @endN_bd s n
    have hN2 := @endN_neg s n
    have e1 : mayD 6 s = (decide (0 ≤ endN s n) && decide ((s.size : Int) = endN s n + 20)) := by rw [e0]; unfold soaB; rw [hn]; simp
    by_cases h2 : endN s n < 0
    · have e2 : mayD 6 s = false := by rw [e1]; simp; omega
      have q : endN s n = -1 := hN2 h2
      have E := Lib.hid e2
      clear e1 e0 e2 h hB hN hB2 hN2 h2 hnb
      go_enter Try.func34, Try.ntmps34
      go_wp2_with fail
      refine (whole s 0 _ hs (by omega)).mono ?_
      rintro e w1 ⟨rfl, hb1⟩
      rw [hn]
      go_wp2_with fail
      refine (whole s n _ hs hle).mono ?_
      rintro e w2 ⟨rfl, hb2⟩
      rw [q]
      go_wp2
      go_ret
      exact ⟨by rw [E.out]; rfl, below_next hb1 hb2⟩
    · obtain ⟨k, hk⟩ : ∃ k : Nat, endN s n = k := ⟨(endN s n).toNat, by omega⟩
      have hkb := hB2 (by omega)
      rw [hk] at hkb
      have hkl : k ≤ s.size := by omega
      have wk : wrap64 ((k : Int) + 20) = (k : Int) + 20 := w64 (by omega) (by omega)
      have e2 : mayD 6 s = ((s.size : Int) == (k : Int) + 20) := by rw [e1, hk, Bool.eq_iff_iff]; simp
      have E := Lib.hid e2
      clear e1 e0 e2 h hB hN hB2 hN2 h2 hnb hkb
      go_enter Try.func34, Try.ntmps34
      go_wp2_with fail
      refine (whole s 0 _ hs (by omega)).mono ?_
      rintro e w1 ⟨rfl, hb1⟩
      rw [hn]
      go_wp2_with fail
      refine (whole s n _ hs hle).mono ?_
      rintro e w2 ⟨rfl, hb2⟩
      rw [hk]
      go_wp2
      go_ret
      exact ⟨by rw [E.out]; rfl, below_next hb1 hb2⟩

set_option maxRecDepth 100000 in
set_option maxHeartbeats 1000000 in
theorem rdmay16 (s : ByteArray) (w : World) (hs : s.size ≤ 9223372036854775000) (h3 : ¬ 65535 < s.size) : Calls Try.prog 34 #[.int .i64 16, .string s] w fun e w' => e = .returned (.bool (mayD 16 s)) ∧ Below w.heap.size w w' := by
  have q3 : decide ((65535 : Int) < s.size) = false := by simp; omega
  have hm : mayD 16 s = _ := mayD_body (t := 16) (by decide) (by decide) h3
  have e1 : mayD 16 s = textsB s := by rw [hm]; simp
  have E := Lib.hid e1
  clear hm e1
  go_enter Try.func34, Try.ntmps34
  go_wp2_with fail
  refine (rtexts s _ hs).mono ?_
  rintro e w1 ⟨rfl, rfl⟩
  go_wp2
  go_ret
  exact ⟨by rw [E.out]; rfl, Below.refl _ _⟩

set_option maxRecDepth 100000 in
set_option maxHeartbeats 1000000 in
theorem rdmayRest (t : Int) (s : ByteArray) (w : World) (hs : s.size ≤ 9223372036854775000) (h1 : ¬ t < 1) (h2 : ¬ 65535 < t) (h3 : ¬ 65535 < s.size) (k1 : ¬ t = 1) (k28 : ¬ t = 28) (k2 : ¬ t = 2) (k5 : ¬ t = 5) (k12 : ¬ t = 12) (k15 : ¬ t = 15) (k6 : ¬ t = 6) (k16 : ¬ t = 16) : Calls Try.prog 34 #[.int .i64 t, .string s] w fun e w' => e = .returned (.bool (mayD t s)) ∧ Below w.heap.size w w' := by
  have e1 : mayD t s = true := by rw [mayD_body h1 h2 h3]; simp [k1, k28, k2, k5, k12, k15, k6, k16]
  have p1 : decide (t < 1) = false := decide_eq_false h1
  have p2 : decide (65535 < t) = false := decide_eq_false h2
  have p3 : decide ((65535 : Int) < s.size) = false := by simp; omega
  have q1 : (t == 1) = false := by simp [k1]
  have q28 : (t == 28) = false := by simp [k28]
  have q2 : (t == 2) = false := by simp [k2]
  have q5 : (t == 5) = false := by simp [k5]
  have q12 : (t == 12) = false := by simp [k12]
  have q15 : (t == 15) = false := by simp [k15]
  have q6 : (t == 6) = false := by simp [k6]
  have q16 : (t == 16) = false := by simp [k16]
  clear h1 h2 h3 k1 k28 k2 k5 k12 k15 k6 k16
  go_enter Try.func34, Try.ntmps34
  go_wp2
  go_ret
  exact ⟨by first | rfl | (rw [e1]; rfl), Below.refl _ _⟩

theorem rdmay (t : Int) (s : ByteArray) (w : World) (hs : s.size ≤ 9223372036854775000) : Calls Try.prog 34 #[.int .i64 t, .string s] w fun e w' => e = .returned (.bool (mayD t s)) ∧ Below w.heap.size w w' := by
  by_cases h1 : t < 1
  · exact rdmayOut t s w hs (.inl h1)
  by_cases h2 : 65535 < t
  · exact rdmayOut t s w hs (.inr (.inl h2))
  by_cases h3 : 65535 < s.size
  · exact rdmayOut t s w hs (.inr (.inr h3))
  by_cases k1 : t = 1
  · subst k1; exact rdmay1 s w hs h3
  by_cases k28 : t = 28
  · subst k28; exact rdmay28 s w hs h3
  by_cases k2 : t = 2
  · subst k2; exact rdmay2 s w hs h3
  by_cases k5 : t = 5
  · subst k5; exact rdmay5 s w hs h3
  by_cases k12 : t = 12
  · subst k12; exact rdmay12 s w hs h3
  by_cases k15 : t = 15
  · subst k15; exact rdmay15 s w hs h3
  by_cases k6 : t = 6
  · subst k6; exact rdmay6 s w hs h3
  by_cases k16 : t = 16
  · subst k16; exact rdmay16 s w hs h3
  exact rdmayRest t s w hs h1 h2 h3 k1 k28 k2 k5 k12 k15 k6 k16
end Go.Proofs.Ytndcjleadggibaa.Rd

namespace Go.Proofs.Ytndcjleadggibaa.Rd
open Go.RowKit Go.PlainAid Go.Proofs.Ytndcjleadggibaa.Base Go.Proofs.Ytndcjleadggibaa.Oct Go.Proofs.Ytndcjleadggibaa.Sl Go.Proofs.Ytndcjleadggibaa.Nm
set_option linter.unusedVariables false

/-- A string and a number. -/
def ans (s : ByteArray) (e : Int) : Ending := .returned (.tuple #[.string s, .int .i64 e])
def emp : ByteArray := ⟨#[]⟩
/-- A number of 32 bits? -/
def wideB (x : Int) : Bool := decide (0 ≤ x) && decide (x ≤ 4294967295)
def aS (x : Int) : ByteArray := if wideB x then p32 x else emp
def aE (x : Int) : Int := if wideB x then 0 else 400
def addrX (s : ByteArray) : Int := if s.size = 4 then be4 s 0 else 0
def addrE (s : ByteArray) : Int := if s.size = 4 then 0 else 400
def mxB (x : Int) (h : ByteArray) : Bool := decide (0 ≤ x) && (decide (x ≤ 65535) && nameB h)
def mxS (x : Int) (h : ByteArray) : ByteArray := if mxB x h then p16 x ++ h else emp
def mxE (x : Int) (h : ByteArray) : Int := if mxB x h then 0 else 400
theorem nameB_size {s : ByteArray} (h : nameB s = true) : s.size ≤ 255 := by unfold nameB at h; simp at h; exact h.1
def hostB (t : Int) (s : ByteArray) : Bool := mayD t s && decide (t = 2 ∨ t = 5 ∨ t = 12 ∨ t = 15)
def hostS (t : Int) (s : ByteArray) : ByteArray := if hostB t s then (if t = 15 then s.extract 2 s.size else s) else emp
def hostE (t : Int) (s : ByteArray) : Int := if hostB t s then 0 else 400

set_option maxRecDepth 100000 in
set_option maxHeartbeats 1000000 in
theorem rwide (x : Int) (w : World) : Calls Try.prog 52 #[.int .i64 x] w fun e w' => e = .returned (.bool (wideB x)) ∧ Below w.heap.size w w' := by
  by_cases h0 : 0 ≤ x
  · have q0 : decide (0 ≤ x) = true := decide_eq_true h0
    have e1 : wideB x = decide (x ≤ 4294967295) := by unfold wideB; rw [q0]; rfl
    clear h0
    go_enter Try.func52, Try.ntmps52
    go_wp2
    go_ret
    exact ⟨by first | rfl | (rw [e1]; rfl), Below.refl _ _⟩
  · have q0 : decide (0 ≤ x) = false := decide_eq_false h0
    have e1 : wideB x = false := by unfold wideB; rw [q0]; rfl
    clear h0
    go_enter Try.func52, Try.ntmps52
    go_wp2
    go_ret
    exact ⟨by first | rfl | (rw [e1]; rfl), Below.refl _ _⟩

set_option maxRecDepth 100000 in
set_option maxHeartbeats 1000000 in
theorem ac (x : Int) (w : World) : Calls Try.prog 25 #[.int .i64 x] w fun e w' => e = ans (aS x) (aE x) ∧ Below w.heap.size w w' := by
  unfold ans
  by_cases h0 : x < 0
  · have q0 : decide (x < 0) = true := decide_eq_true h0
    have e1 : wideB x = false := by unfold wideB; simp; omega
    have e2 : aS x = emp := by unfold aS; rw [e1]; rfl
    have e3 : aE x = 400 := by unfold aE; rw [e1]; rfl
    rw [e2, e3]
    clear h0 e1 e2 e3
    go_enter Try.func25, Try.ntmps25
    go_wp2
    go_ret2
    exact ⟨rfl, Below.refl _ _⟩
  · have q0 : decide (x < 0) = false := decide_eq_false h0
    by_cases h1 : 4294967295 < x
    · have q1 : decide (4294967295 < x) = true := decide_eq_true h1
      have e1 : wideB x = false := by unfold wideB; simp; omega
      have e2 : aS x = emp := by unfold aS; rw [e1]; rfl
      have e3 : aE x = 400 := by unfold aE; rw [e1]; rfl
      rw [e2, e3]
      clear h0 h1 e1 e2 e3
      go_enter Try.func25, Try.ntmps25
      go_wp2
      go_ret2
      exact ⟨rfl, Below.refl _ _⟩
    · have q1 : decide (4294967295 < x) = false := decide_eq_false h1
      have e1 : wideB x = true := by unfold wideB; simp; omega
      have e2 : aS x = p32 x := by unfold aS; rw [e1]; rfl
      have e3 : aE x = 0 := by unfold aE; rw [e1]; rfl
      rw [e2, e3]
      clear h0 h1 e1 e2 e3
      go_enter Try.func25, Try.ntmps25
      go_wp2_with fail
      refine (put32 x _).mono ?_
      rintro e w1 ⟨rfl, hb1⟩
      go_wp2
      go_ret2
      exact ⟨rfl, hb1⟩

set_option maxRecDepth 100000 in
set_option maxHeartbeats 1000000 in
theorem rac (x : Int) (w : World) : Calls Try.prog 26 #[.int .i64 x] w fun e w' => e = ans (aS x) (aE x) ∧ Below w.heap.size w w' := by
  unfold ans aS aE
  cases h : wideB x with
  | true =>
    go_enter Try.func26, Try.ntmps26
    go_wp2_with fail
    refine (rwide x _).mono ?_
    rintro e w1 ⟨rfl, hb1⟩
    rw [h]
    go_wp2_with fail
    refine (rbe4 x _).mono ?_
    rintro e w2 ⟨rfl, hb2⟩
    go_wp2
    go_ret2
    exact ⟨rfl, below_next hb1 hb2⟩
  | false =>
    go_enter Try.func26, Try.ntmps26
    go_wp2_with fail
    refine (rwide x _).mono ?_
    rintro e w1 ⟨rfl, hb1⟩
    rw [h]
    go_wp2
    go_ret2
    exact ⟨rfl, hb1⟩

set_option maxRecDepth 100000 in
set_option maxHeartbeats 1000000 in
theorem addrc (s : ByteArray) (w : World) (hs : s.size ≤ 9223372036854775000) : Calls Try.prog 27 #[.string s] w fun e w' => e = .returned (.tuple #[.int .i64 (addrX s), .int .i64 (addrE s)]) ∧ Below w.heap.size w w' := by
  unfold addrX addrE
  by_cases h : s.size = 4
  · have q0 : ((s.size : Int) != 4) = false := by simp; omega
    rw [if_pos h, if_pos h]
    have H := Lib.hid h
    clear h
    go_enter Try.func27, Try.ntmps27
    go_wp2_with fail
    refine (u32z s 0 _ hs (by omega) (by have := H.out; omega)).mono ?_
    rintro e w1 ⟨rfl, rfl⟩
    go_wp2
    go_ret2
    exact ⟨rfl, Below.refl _ _⟩
  · have q0 : ((s.size : Int) != 4) = true := by simp; omega
    rw [if_neg h, if_neg h]
    clear h
    go_enter Try.func27, Try.ntmps27
    go_wp2
    go_ret2
    exact ⟨rfl, Below.refl _ _⟩

set_option maxRecDepth 100000 in
set_option maxHeartbeats 1000000 in
theorem raddrc (s : ByteArray) (w : World) (hs : s.size ≤ 9223372036854775000) : Calls Try.prog 28 #[.string s] w fun e w' => e = .returned (.tuple #[.int .i64 (addrX s), .int .i64 (addrE s)]) ∧ Below w.heap.size w w' := by
  unfold addrX addrE
  by_cases h : s.size = 4
  · have q0 : ((s.size : Int) != 4) = false := by simp; omega
    rw [if_pos h, if_pos h]
    have H := Lib.hid h
    clear h
    go_enter Try.func28, Try.ntmps28
    go_wp2_with fail
    refine (rnum4z s 0 _ hs (by omega) (by have := H.out; omega)).mono ?_
    rintro e w1 ⟨rfl, rfl⟩
    go_wp2
    go_ret2
    exact ⟨rfl, Below.refl _ _⟩
  · have q0 : ((s.size : Int) != 4) = true := by simp; omega
    rw [if_neg h, if_neg h]
    clear h
    go_enter Try.func28, Try.ntmps28
    go_wp2
    go_ret2
    exact ⟨rfl, Below.refl _ _⟩

set_option maxRecDepth 100000 in
set_option maxHeartbeats 1000000 in
theorem mxc (x : Int) (s : ByteArray) (w : World) : Calls Try.prog 29 #[.int .i64 x, .string s] w fun e w' => e = ans (mxS x s) (mxE x s) ∧ Below w.heap.size w w' := by
  unfold ans
  by_cases h0 : x < 0
  · have q0 : decide (x < 0) = true := decide_eq_true h0
    have e1 : mxB x s = false := by unfold mxB; simp; omega
    have e2 : mxS x s = emp := by unfold mxS; rw [e1]; rfl
    have e3 : mxE x s = 400 := by unfold mxE; rw [e1]; rfl
    rw [e2, e3]
    clear h0 e1 e2 e3
    go_enter Try.func29, Try.ntmps29
    go_wp2
    go_ret2
    exact ⟨rfl, Below.refl _ _⟩
  · have q0 : decide (x < 0) = false := decide_eq_false h0
    by_cases h1 : 65535 < x
    · have q1 : decide (65535 < x) = true := decide_eq_true h1
      have e1 : mxB x s = false := by unfold mxB; simp; omega
      have e2 : mxS x s = emp := by unfold mxS; rw [e1]; rfl
      have e3 : mxE x s = 400 := by unfold mxE; rw [e1]; rfl
      rw [e2, e3]
      clear h0 h1 e1 e2 e3
      go_enter Try.func29, Try.ntmps29
      go_wp2
      go_ret2
      exact ⟨rfl, Below.refl _ _⟩
    · have q1 : decide (65535 < x) = false := decide_eq_false h1
      have e1 : mxB x s = nameB s := by unfold mxB; rw [decide_eq_true (show 0 ≤ x by omega), decide_eq_true (show x ≤ 65535 by omega)]; rfl
      unfold mxS mxE
      rw [e1]
      clear h0 h1 e1
      cases h : nameB s with
      | true =>
        have hpl : ¬ 9223372036854775807 < (p16 x).size + s.size := by rw [p16_size]; have := nameB_size h; omega
        go_enter Try.func29, Try.ntmps29
        go_wp2_with fail
        refine (may s _).mono ?_
        rintro e w1 ⟨rfl, hb1⟩
        rw [h]
        go_wp2_with fail
        refine (put16 x _).mono ?_
        rintro e w2 ⟨rfl, hb2⟩
        go_wp2
        go_ret2
        exact ⟨rfl, below_next hb1 hb2⟩
      | false =>
        go_enter Try.func29, Try.ntmps29
        go_wp2_with fail
        refine (may s _).mono ?_
        rintro e w1 ⟨rfl, hb1⟩
        rw [h]
        go_wp2
        go_ret2
        exact ⟨rfl, hb1⟩

set_option maxRecDepth 100000 in
set_option maxHeartbeats 1000000 in
theorem rmxc (x : Int) (s : ByteArray) (w : World) : Calls Try.prog 30 #[.int .i64 x, .string s] w fun e w' => e = ans (mxS x s) (mxE x s) ∧ Below w.heap.size w w' := by
  unfold ans
  by_cases h0 : x < 0
  · have q0 : decide (x < 0) = true := decide_eq_true h0
    have e1 : mxB x s = false := by unfold mxB; simp; omega
    have e2 : mxS x s = emp := by unfold mxS; rw [e1]; rfl
    have e3 : mxE x s = 400 := by unfold mxE; rw [e1]; rfl
    rw [e2, e3]
    clear h0 e1 e2 e3
    go_enter Try.func30, Try.ntmps30
    go_wp2
    go_ret2
    exact ⟨rfl, Below.refl _ _⟩
  · have q0 : decide (x < 0) = false := decide_eq_false h0
    by_cases h1 : 65535 < x
    · have q1 : decide (65535 < x) = true := decide_eq_true h1
      have e1 : mxB x s = false := by unfold mxB; simp; omega
      have e2 : mxS x s = emp := by unfold mxS; rw [e1]; rfl
      have e3 : mxE x s = 400 := by unfold mxE; rw [e1]; rfl
      rw [e2, e3]
      clear h0 h1 e1 e2 e3
      go_enter Try.func30, Try.ntmps30
      go_wp2
      go_ret2
      exact ⟨rfl, Below.refl _ _⟩
    · have q1 : decide (65535 < x) = false := decide_eq_false h1
      have e1 : mxB x s = nameB s := by unfold mxB; rw [decide_eq_true (show 0 ≤ x by omega), decide_eq_true (show x ≤ 65535 by omega)]; rfl
      unfold mxS mxE
      rw [e1]
      clear h0 h1 e1
      cases h : nameB s with
      | true =>
        have hpl : ¬ 9223372036854775807 < (p16 x).size + s.size := by rw [p16_size]; have := nameB_size h; omega
        go_enter Try.func30, Try.ntmps30
        go_wp2_with fail
        refine (rmay s _).mono ?_
        rintro e w1 ⟨rfl, hb1⟩
        rw [h]
        go_wp2_with fail
        refine (rbe2 x _).mono ?_
        rintro e w2 ⟨rfl, hb2⟩
        go_wp2
        go_ret2
        exact ⟨rfl, below_next hb1 hb2⟩
      | false =>
        go_enter Try.func30, Try.ntmps30
        go_wp2_with fail
        refine (rmay s _).mono ?_
        rintro e w1 ⟨rfl, hb1⟩
        rw [h]
        go_wp2
        go_ret2
        exact ⟨rfl, hb1⟩

theorem may15 {s : ByteArray} (h : mayD 15 s = true) : 2 ≤ s.size := by
  by_cases h3 : 65535 < s.size
  · omega
  · rw [mayD_body (by decide) (by decide) h3] at h
    simp at h
    exact h.1

set_option maxRecDepth 100000 in
set_option maxHeartbeats 1000000 in
theorem hostc2 (s : ByteArray) (w : World) (hs : s.size ≤ 9223372036854775000) : Calls Try.prog 31 #[.int .i64 2, .string s] w fun e w' => e = ans (hostS 2 s) (hostE 2 s) ∧ Below w.heap.size w w' := by
  unfold ans hostS hostE
  have e1 : hostB 2 s = mayD 2 s := by unfold hostB; simp
  rw [e1]
  clear e1
  cases h : mayD 2 s with
  | true =>
    go_enter Try.func31, Try.ntmps31
    go_wp2_with fail
    refine (dmay 2 s _ hs).mono ?_
    rintro e w1 ⟨rfl, hb1⟩
    rw [h]
    go_wp2
    go_ret2
    exact ⟨rfl, hb1⟩
  | false =>
    go_enter Try.func31, Try.ntmps31
    go_wp2_with fail
    refine (dmay 2 s _ hs).mono ?_
    rintro e w1 ⟨rfl, hb1⟩
    rw [h]
    go_wp2
    go_ret2
    exact ⟨rfl, hb1⟩

set_option maxRecDepth 100000 in
set_option maxHeartbeats 1000000 in
theorem hostc5 (s : ByteArray) (w : World) (hs : s.size ≤ 9223372036854775000) : Calls Try.prog 31 #[.int .i64 5, .string s] w fun e w' => e = ans (hostS 5 s) (hostE 5 s) ∧ Below w.heap.size w w' := by
  unfold ans hostS hostE
  have e1 : hostB 5 s = mayD 5 s := by unfold hostB; simp
  rw [e1]
  clear e1
  cases h : mayD 5 s with
  | true =>
    go_enter Try.func31, Try.ntmps31
    go_wp2_with fail
    refine (dmay 5 s _ hs).mono ?_
    rintro e w1 ⟨rfl, hb1⟩
    rw [h]
    go_wp2
    go_ret2
    exact ⟨rfl, hb1⟩
  | false =>
    go_enter Try.func31, Try.ntmps31
    go_wp2_with fail
    refine (dmay 5 s _ hs).mono ?_
    rintro e w1 ⟨rfl, hb1⟩
    rw [h]
    go_wp2
    go_ret2
    exact ⟨rfl, hb1⟩

set_option maxRecDepth 100000 in
set_option maxHeartbeats 1000000 in
theorem hostc12 (s : ByteArray) (w : World) (hs : s.size ≤ 9223372036854775000) : Calls Try.prog 31 #[.int .i64 12, .string s] w fun e w' => e = ans (hostS 12 s) (hostE 12 s) ∧ Below w.heap.size w w' := by
  unfold ans hostS hostE
  have e1 : hostB 12 s = mayD 12 s := by unfold hostB; simp
  rw [e1]
  clear e1
  cases h : mayD 12 s with
  | true =>
    go_enter Try.func31, Try.ntmps31
    go_wp2_with fail
    refine (dmay 12 s _ hs).mono ?_
    rintro e w1 ⟨rfl, hb1⟩
    rw [h]
    go_wp2
    go_ret2
    exact ⟨rfl, hb1⟩
  | false =>
    go_enter Try.func31, Try.ntmps31
    go_wp2_with fail
    refine (dmay 12 s _ hs).mono ?_
    rintro e w1 ⟨rfl, hb1⟩
    rw [h]
    go_wp2
    go_ret2
    exact ⟨rfl, hb1⟩

set_option maxRecDepth 100000 in
set_option maxHeartbeats 1000000 in
theorem hostc15 (s : ByteArray) (w : World) (hs : s.size ≤ 9223372036854775000) : Calls Try.prog 31 #[.int .i64 15, .string s] w fun e w' => e = ans (hostS 15 s) (hostE 15 s) ∧ Below w.heap.size w w' := by
  unfold ans hostS hostE
  have e1 : hostB 15 s = mayD 15 s := by unfold hostB; simp
  rw [e1]
  clear e1
  cases h : mayD 15 s with
  | true =>
    have h2 : 2 ≤ s.size := may15 h
    go_enter Try.func31, Try.ntmps31
    go_wp2_with fail
    refine (dmay 15 s _ hs).mono ?_
    rintro e w1 ⟨rfl, hb1⟩
    rw [h]
    go_wp2
    go_ret2
    exact ⟨rfl, hb1⟩
  | false =>
    go_enter Try.func31, Try.ntmps31
    go_wp2_with fail
    refine (dmay 15 s _ hs).mono ?_
    rintro e w1 ⟨rfl, hb1⟩
    rw [h]
    go_wp2
    go_ret2
    exact ⟨rfl, hb1⟩

set_option maxRecDepth 100000 in
set_option maxHeartbeats 1000000 in
theorem hostcRest (t : Int) (s : ByteArray) (w : World) (hs : s.size ≤ 9223372036854775000) (k2 : ¬ t = 2) (k5 : ¬ t = 5) (k12 : ¬ t = 12) (k15 : ¬ t = 15) : Calls Try.prog 31 #[.int .i64 t, .string s] w fun e w' => e = ans (hostS t s) (hostE t s) ∧ Below w.heap.size w w' := by
  have e1 : hostB t s = false := by unfold hostB; simp [k2, k5, k12, k15]
  unfold ans hostS hostE
  rw [e1]
  have q2 : (t == 2) = false := by simp [k2]
  have q5 : (t == 5) = false := by simp [k5]
  have q12 : (t == 12) = false := by simp [k12]
  have q15 : (t == 15) = false := by simp [k15]
  clear k2 k5 k12 k15 e1
  cases h : mayD t s with
  | true =>
    go_enter Try.func31, Try.ntmps31
    go_wp2_with fail
    refine (dmay t s _ hs).mono ?_
    rintro e w1 ⟨rfl, hb1⟩
    rw [h]
    go_wp2
    go_ret2
    exact ⟨rfl, hb1⟩
  | false =>
    go_enter Try.func31, Try.ntmps31
    go_wp2_with fail
    refine (dmay t s _ hs).mono ?_
    rintro e w1 ⟨rfl, hb1⟩
    rw [h]
    go_wp2
    go_ret2
    exact ⟨rfl, hb1⟩

theorem hostc (t : Int) (s : ByteArray) (w : World) (hs : s.size ≤ 9223372036854775000) : Calls Try.prog 31 #[.int .i64 t, .string s] w fun e w' => e = ans (hostS t s) (hostE t s) ∧ Below w.heap.size w w' := by
  by_cases k2 : t = 2
  · subst k2; exact hostc2 s w hs
  by_cases k5 : t = 5
  · subst k5; exact hostc5 s w hs
  by_cases k12 : t = 12
  · subst k12; exact hostc12 s w hs
  by_cases k15 : t = 15
  · subst k15; exact hostc15 s w hs
  exact hostcRest t s w hs k2 k5 k12 k15

set_option maxRecDepth 100000 in
set_option maxHeartbeats 1000000 in
theorem rhostc2 (s : ByteArray) (w : World) (hs : s.size ≤ 9223372036854775000) : Calls Try.prog 32 #[.int .i64 2, .string s] w fun e w' => e = ans (hostS 2 s) (hostE 2 s) ∧ Below w.heap.size w w' := by
  unfold ans hostS hostE
  have e1 : hostB 2 s = mayD 2 s := by unfold hostB; simp
  rw [e1]
  clear e1
  cases h : mayD 2 s with
  | true =>
    go_enter Try.func32, Try.ntmps32
    go_wp2_with fail
    refine (rdmay 2 s _ hs).mono ?_
    rintro e w1 ⟨rfl, hb1⟩
    rw [h]
    go_wp2
    go_ret2
    exact ⟨rfl, hb1⟩
  | false =>
    go_enter Try.func32, Try.ntmps32
    go_wp2_with fail
    refine (rdmay 2 s _ hs).mono ?_
    rintro e w1 ⟨rfl, hb1⟩
    rw [h]
    go_wp2
    go_ret2
    exact ⟨rfl, hb1⟩

set_option maxRecDepth 100000 in
set_option maxHeartbeats 1000000 in
theorem rhostc5 (s : ByteArray) (w : World) (hs : s.size ≤ 9223372036854775000) : Calls Try.prog 32 #[.int .i64 5, .string s] w fun e w' => e = ans (hostS 5 s) (hostE 5 s) ∧ Below w.heap.size w w' := by
  unfold ans hostS hostE
  have e1 : hostB 5 s = mayD 5 s := by unfold hostB; simp
  rw [e1]
  clear e1
  cases h : mayD 5 s with
  | true =>
    go_enter Try.func32, Try.ntmps32
    go_wp2_with fail
    refine (rdmay 5 s _ hs).mono ?_
    rintro e w1 ⟨rfl, hb1⟩
    rw [h]
    go_wp2
    go_ret2
    exact ⟨rfl, hb1⟩
  | false =>
    go_enter Try.func32, Try.ntmps32
    go_wp2_with fail
    refine (rdmay 5 s _ hs).mono ?_
    rintro e w1 ⟨rfl, hb1⟩
    rw [h]
    go_wp2
    go_ret2
    exact ⟨rfl, hb1⟩

set_option maxRecDepth 100000 in
set_option maxHeartbeats 1000000 in
theorem rhostc12 (s : ByteArray) (w : World) (hs : s.size ≤ 9223372036854775000) : Calls Try.prog 32 #[.int .i64 12, .string s] w fun e w' => e = ans (hostS 12 s) (hostE 12 s) ∧ Below w.heap.size w w' := by
  unfold ans hostS hostE
  have e1 : hostB 12 s = mayD 12 s := by unfold hostB; simp
  rw [e1]
  clear e1
  cases h : mayD 12 s with
  | true =>
    go_enter Try.func32, Try.ntmps32
    go_wp2_with fail
    refine (rdmay 12 s _ hs).mono ?_
    rintro e w1 ⟨rfl, hb1⟩
    rw [h]
    go_wp2
    go_ret2
    exact ⟨rfl, hb1⟩
  | false =>
    go_enter Try.func32, Try.ntmps32
    go_wp2_with fail
    refine (rdmay 12 s _ hs).mono ?_
    rintro e w1 ⟨rfl, hb1⟩
    rw [h]
    go_wp2
    go_ret2
    exact ⟨rfl, hb1⟩

set_option maxRecDepth 100000 in
set_option maxHeartbeats 1000000 in
theorem rhostc15 (s : ByteArray) (w : World) (hs : s.size ≤ 9223372036854775000) : Calls Try.prog 32 #[.int .i64 15, .string s] w fun e w' => e = ans (hostS 15 s) (hostE 15 s) ∧ Below w.heap.size w w' := by
  unfold ans hostS hostE
  have e1 : hostB 15 s = mayD 15 s := by unfold hostB; simp
  rw [e1]
  clear e1
  cases h : mayD 15 s with
  | true =>
    have h2 : 2 ≤ s.size := may15 h
    go_enter Try.func32, Try.ntmps32
    go_wp2_with fail
    refine (rdmay 15 s _ hs).mono ?_
    rintro e w1 ⟨rfl, hb1⟩
    rw [h]
    go_wp2
    go_ret2
    exact ⟨rfl, hb1⟩
  | false =>
    go_enter Try.func32, Try.ntmps32
    go_wp2_with fail
    refine (rdmay 15 s _ hs).mono ?_
    rintro e w1 ⟨rfl, hb1⟩
    rw [h]
    go_wp2
    go_ret2
    exact ⟨rfl, hb1⟩

set_option maxRecDepth 100000 in
set_option maxHeartbeats 1000000 in
theorem rhostcRest (t : Int) (s : ByteArray) (w : World) (hs : s.size ≤ 9223372036854775000) (k2 : ¬ t = 2) (k5 : ¬ t = 5) (k12 : ¬ t = 12) (k15 : ¬ t = 15) : Calls Try.prog 32 #[.int .i64 t, .string s] w fun e w' => e = ans (hostS t s) (hostE t s) ∧ Below w.heap.size w w' := by
  have e1 : hostB t s = false := by unfold hostB; simp [k2, k5, k12, k15]
  unfold ans hostS hostE
  rw [e1]
  have q2 : (t == 2) = false := by simp [k2]
  have q5 : (t == 5) = false := by simp [k5]
  have q12 : (t == 12) = false := by simp [k12]
  have q15 : (t == 15) = false := by simp [k15]
  clear k2 k5 k12 k15 e1
  go_enter Try.func32, Try.ntmps32
  go_wp2
  go_ret2
  exact ⟨rfl, Below.refl _ _⟩

theorem rhostc (t : Int) (s : ByteArray) (w : World) (hs : s.size ≤ 9223372036854775000) : Calls Try.prog 32 #[.int .i64 t, .string s] w fun e w' => e = ans (hostS t s) (hostE t s) ∧ Below w.heap.size w w' := by
  by_cases k2 : t = 2
  · subst k2; exact rhostc2 s w hs
  by_cases k5 : t = 5
  · subst k5; exact rhostc5 s w hs
  by_cases k12 : t = 12
  · subst k12; exact rhostc12 s w hs
  by_cases k15 : t = 15
  · subst k15; exact rhostc15 s w hs
  exact rhostcRest t s w hs k2 k5 k12 k15
end Go.Proofs.Ytndcjleadggibaa.Rd

namespace Go.Proofs.Ytndcjleadggibaa.Rd
open Go.RowKit Go.PlainAid Go.Proofs.Ytndcjleadggibaa.Base Go.Proofs.Ytndcjleadggibaa.Oct Go.Proofs.Ytndcjleadggibaa.Sl Go.Proofs.Ytndcjleadggibaa.Nm
set_option linter.unusedVariables false

/-- A place of a block. -/
def plc (a : Nat) (k : Nat) : Value := .pointer (some ⟨a, k, none⟩)
set_option maxHeartbeats 1000000 in
theorem words (b : Nat) (w : World) : Calls Try.prog 62 #[plc b 0] w fun e w' => e = .returned (.agg #[plc b 2, plc b 3, plc b 4, plc b 5, plc b 6]) ∧ Below w.heap.size w w' := by
  unfold plc
  go_enter Try.func62, Try.ntmps62
  go_wp2
  go_region
  go_wp2
  exact bodyPost_ret (v := .agg #[plc b 2, plc b 3, plc b 4, plc b 5, plc b 6]) (by simp [results, Try.results62, go_sem, plc]) rfl ⟨rfl, below_drew (below_alloc (Below.refl _ _) _)⟩

/-- An SOA's parts. -/
structure Soa where
  host : ByteArray
  mail : ByteArray
  s0 : Int
  s1 : Int
  s2 : Int
  s3 : Int
  s4 : Int
def Soa.val (x : Soa) : Value := .agg #[.string x.host, .string x.mail, .int .i64 x.s0, .int .i64 x.s1, .int .i64 x.s2, .int .i64 x.s3, .int .i64 x.s4]
def Soa.ok (x : Soa) : Bool := nameB x.host && (nameB x.mail && (wideB x.s0 && (wideB x.s1 && (wideB x.s2 && (wideB x.s3 && wideB x.s4)))))
def Soa.out (x : Soa) : ByteArray := x.host ++ x.mail ++ p32 x.s0 ++ p32 x.s1 ++ p32 x.s2 ++ p32 x.s3 ++ p32 x.s4
def Soa.S (x : Soa) : ByteArray := if x.ok then x.out else emp
def Soa.E (x : Soa) : Int := if x.ok then 0 else 400
end Go.Proofs.Ytndcjleadggibaa.Rd

namespace Go.Proofs.Ytndcjleadggibaa.Rd
open Go.RowKit Go.PlainAid Go.Proofs.Ytndcjleadggibaa.Base Go.Proofs.Ytndcjleadggibaa.Oct Go.Proofs.Ytndcjleadggibaa.Sl Go.Proofs.Ytndcjleadggibaa.Nm
set_option linter.unusedVariables false

theorem wideB_iff {x : Int} : wideB x = true ↔ 0 ≤ x ∧ x ≤ 4294967295 := by unfold wideB; simp
theorem idx0 (a b c d e : Option Addr) (w : World) : (Instr.index 100 (.agg #[.pointer a, .pointer b, .pointer c, .pointer d, .pointer e]) (.int .i64 0)).run Try.prog w = .ok (.pointer a) w := by
  simp [Instr.index, run_underlying Try.underlying100, asIntOf, go_sem]
theorem idx1 (a b c d e : Option Addr) (w : World) : (Instr.index 100 (.agg #[.pointer a, .pointer b, .pointer c, .pointer d, .pointer e]) (.int .i64 1)).run Try.prog w = .ok (.pointer b) w := by
  simp [Instr.index, run_underlying Try.underlying100, asIntOf, go_sem]
theorem idx2 (a b c d e : Option Addr) (w : World) : (Instr.index 100 (.agg #[.pointer a, .pointer b, .pointer c, .pointer d, .pointer e]) (.int .i64 2)).run Try.prog w = .ok (.pointer c) w := by
  simp [Instr.index, run_underlying Try.underlying100, asIntOf, go_sem]
theorem idx3 (a b c d e : Option Addr) (w : World) : (Instr.index 100 (.agg #[.pointer a, .pointer b, .pointer c, .pointer d, .pointer e]) (.int .i64 3)).run Try.prog w = .ok (.pointer d) w := by
  simp [Instr.index, run_underlying Try.underlying100, asIntOf, go_sem]
theorem idx4 (a b c d e : Option Addr) (w : World) : (Instr.index 100 (.agg #[.pointer a, .pointer b, .pointer c, .pointer d, .pointer e]) (.int .i64 4)).run Try.prog w = .ok (.pointer e) w := by
  simp [Instr.index, run_underlying Try.underlying100, asIntOf, go_sem]

set_option maxRecDepth 100000 in
set_option maxHeartbeats 2000000 in
theorem soaYes (x : Soa) (w : World) (hn : nameB x.host = true) (hm : nameB x.mail = true) (g0 : wideB x.s0 = true) (g1 : wideB x.s1 = true) (g2 : wideB x.s2 = true) (g3 : wideB x.s3 = true) (g4 : wideB x.s4 = true) : Calls Try.prog 35 #[x.val] w fun e w' => e = ans x.S x.E ∧ Below w.heap.size w w' := by
  have e1 : x.ok = true := by unfold Soa.ok; rw [hn, hm, g0, g1, g2, g3, g4]; rfl
  have e2 : x.S = x.out := by unfold Soa.S; rw [e1]; rfl
  have e3 : x.E = 0 := by unfold Soa.E; rw [e1]; rfl
  unfold ans
  rw [e2, e3]
  have a0 : decide (x.s0 < 0) = false := decide_eq_false (by have := wideB_iff.1 g0; omega)
  have b0 : decide (4294967295 < x.s0) = false := decide_eq_false (by have := wideB_iff.1 g0; omega)
  have a1 : decide (x.s1 < 0) = false := decide_eq_false (by have := wideB_iff.1 g1; omega)
  have b1 : decide (4294967295 < x.s1) = false := decide_eq_false (by have := wideB_iff.1 g1; omega)
  have a2 : decide (x.s2 < 0) = false := decide_eq_false (by have := wideB_iff.1 g2; omega)
  have b2 : decide (4294967295 < x.s2) = false := decide_eq_false (by have := wideB_iff.1 g2; omega)
  have a3 : decide (x.s3 < 0) = false := decide_eq_false (by have := wideB_iff.1 g3; omega)
  have b3 : decide (4294967295 < x.s3) = false := decide_eq_false (by have := wideB_iff.1 g3; omega)
  have a4 : decide (x.s4 < 0) = false := decide_eq_false (by have := wideB_iff.1 g4; omega)
  have b4 : decide (4294967295 < x.s4) = false := decide_eq_false (by have := wideB_iff.1 g4; omega)
  have hz := nameB_size hn
  have hy := nameB_size hm
  have l0 : ¬ 9223372036854775807 < (x.host).size + x.mail.size := by (try simp only [ByteArray.size_append, p32_size]); omega
  have l1 : ¬ 9223372036854775807 < (x.host ++ x.mail).size + (p32 x.s0).size := by (try simp only [ByteArray.size_append, p32_size]); omega
  have l2 : ¬ 9223372036854775807 < (x.host ++ x.mail ++ (p32 x.s0)).size + (p32 x.s1).size := by (try simp only [ByteArray.size_append, p32_size]); omega
  have l3 : ¬ 9223372036854775807 < (x.host ++ x.mail ++ (p32 x.s0) ++ (p32 x.s1)).size + (p32 x.s2).size := by (try simp only [ByteArray.size_append, p32_size]); omega
  have l4 : ¬ 9223372036854775807 < (x.host ++ x.mail ++ (p32 x.s0) ++ (p32 x.s1) ++ (p32 x.s2)).size + (p32 x.s3).size := by (try simp only [ByteArray.size_append, p32_size]); omega
  have l5 : ¬ 9223372036854775807 < (x.host ++ x.mail ++ (p32 x.s0) ++ (p32 x.s1) ++ (p32 x.s2) ++ (p32 x.s3)).size + (p32 x.s4).size := by (try simp only [ByteArray.size_append, p32_size]); omega
  clear g0 g1 g2 g3 g4 e1 e2 e3 hz hy
  unfold Soa.val
  go_enter Try.func35, Try.ntmps35
  go_wp2_with fail
  refine (may x.host _).mono ?_
  rintro e w1 ⟨rfl, hb1⟩
  rw [hn]
  have c0 : w1.cell? ⟨w.heap.size, 0, none⟩ = some (.string x.host) := bcell hb1 (by go_simp)
  have c1 : w1.cell? ⟨w.heap.size, 1, none⟩ = some (.string x.mail) := bcell hb1 (by go_simp)
  have c2 : w1.cell? ⟨w.heap.size, 2, none⟩ = some (.int .i64 x.s0) := bcell hb1 (by go_simp)
  have c3 : w1.cell? ⟨w.heap.size, 3, none⟩ = some (.int .i64 x.s1) := bcell hb1 (by go_simp)
  have c4 : w1.cell? ⟨w.heap.size, 4, none⟩ = some (.int .i64 x.s2) := bcell hb1 (by go_simp)
  have c5 : w1.cell? ⟨w.heap.size, 5, none⟩ = some (.int .i64 x.s3) := bcell hb1 (by go_simp)
  have c6 : w1.cell? ⟨w.heap.size, 6, none⟩ = some (.int .i64 x.s4) := bcell hb1 (by go_simp)
  have B1 := below_next (below_alloc (Below.refl w.heap.size w) _) hb1
  go_wp2_with fail
  refine (may x.mail _).mono ?_
  rintro e w2 ⟨rfl, hb2⟩
  rw [hm]
  replace c0 := bcell hb2 c0
  replace c1 := bcell hb2 c1
  replace c2 := bcell hb2 c2
  replace c3 := bcell hb2 c3
  replace c4 := bcell hb2 c4
  replace c5 := bcell hb2 c5
  replace c6 := bcell hb2 c6
  have B2 := below_next B1 hb2
  go_wp2_with fail
  refine (words w.heap.size _).mono ?_
  rintro e w3 ⟨rfl, hb3⟩
  replace c0 := bcell hb3 c0
  replace c1 := bcell hb3 c1
  replace c2 := bcell hb3 c2
  replace c3 := bcell hb3 c3
  replace c4 := bcell hb3 c4
  replace c5 := bcell hb3 c5
  replace c6 := bcell hb3 c6
  have B3 := below_next B2 hb3
  simp only [plc]
  have i0 := idx0
  have i1 := idx1
  have i2 := idx2
  have i3 := idx3
  have i4 := idx4
  go_wp2
  refine wp_loop_rounds 6 ?_
  rw [rounds_succ]
  go_wp2_with fail
  refine (put32 x.s0 _).mono ?_
  rintro e w4 ⟨rfl, hb4⟩
  replace c2 := bcell hb4 c2
  replace c3 := bcell hb4 c3
  replace c4 := bcell hb4 c4
  replace c5 := bcell hb4 c5
  replace c6 := bcell hb4 c6
  have B4 := below_next B3 hb4
  go_wp2
  rw [rounds_succ]
  go_wp2_with fail
  refine (put32 x.s1 _).mono ?_
  rintro e w5 ⟨rfl, hb5⟩
  replace c2 := bcell hb5 c2
  replace c3 := bcell hb5 c3
  replace c4 := bcell hb5 c4
  replace c5 := bcell hb5 c5
  replace c6 := bcell hb5 c6
  have B5 := below_next B4 hb5
  go_wp2
  rw [rounds_succ]
  go_wp2_with fail
  refine (put32 x.s2 _).mono ?_
  rintro e w6 ⟨rfl, hb6⟩
  replace c2 := bcell hb6 c2
  replace c3 := bcell hb6 c3
  replace c4 := bcell hb6 c4
  replace c5 := bcell hb6 c5
  replace c6 := bcell hb6 c6
  have B6 := below_next B5 hb6
  go_wp2
  rw [rounds_succ]
  go_wp2_with fail
  refine (put32 x.s3 _).mono ?_
  rintro e w7 ⟨rfl, hb7⟩
  replace c2 := bcell hb7 c2
  replace c3 := bcell hb7 c3
  replace c4 := bcell hb7 c4
  replace c5 := bcell hb7 c5
  replace c6 := bcell hb7 c6
  have B7 := below_next B6 hb7
  go_wp2
  rw [rounds_succ]
  go_wp2_with fail
  refine (put32 x.s4 _).mono ?_
  rintro e w8 ⟨rfl, hb8⟩
  replace c2 := bcell hb8 c2
  replace c3 := bcell hb8 c3
  replace c4 := bcell hb8 c4
  replace c5 := bcell hb8 c5
  replace c6 := bcell hb8 c6
  have B8 := below_next B7 hb8
  go_wp2
  rw [rounds_succ]
  go_wp2
  go_ret2
  exact ⟨rfl, B8⟩

set_option maxRecDepth 100000 in
set_option maxHeartbeats 2000000 in
theorem soaLo0 (x : Soa) (w : World) (hn : nameB x.host = true) (hm : nameB x.mail = true)  (gb : wideB x.s0 = false) (hx : x.s0 < 0) : Calls Try.prog 35 #[x.val] w fun e w' => e = ans x.S x.E ∧ Below w.heap.size w w' := by
  have e1 : x.ok = false := by unfold Soa.ok; rw [hn, hm, gb]; simp
  have e2 : x.S = emp := by unfold Soa.S; rw [e1]; rfl
  have e3 : x.E = 400 := by unfold Soa.E; rw [e1]; rfl
  unfold ans
  rw [e2, e3]
  have a0 : decide (x.s0 < 0) = true := decide_eq_true hx
  have hz := nameB_size hn
  have hy := nameB_size hm
  have l0 : ¬ 9223372036854775807 < (x.host).size + x.mail.size := by (try simp only [ByteArray.size_append, p32_size]); omega
  clear hx gb e1 e2 e3 hz hy
  unfold Soa.val
  go_enter Try.func35, Try.ntmps35
  go_wp2_with fail
  refine (may x.host _).mono ?_
  rintro e w1 ⟨rfl, hb1⟩
  rw [hn]
  have c0 : w1.cell? ⟨w.heap.size, 0, none⟩ = some (.string x.host) := bcell hb1 (by go_simp)
  have c1 : w1.cell? ⟨w.heap.size, 1, none⟩ = some (.string x.mail) := bcell hb1 (by go_simp)
  have c2 : w1.cell? ⟨w.heap.size, 2, none⟩ = some (.int .i64 x.s0) := bcell hb1 (by go_simp)
  have c3 : w1.cell? ⟨w.heap.size, 3, none⟩ = some (.int .i64 x.s1) := bcell hb1 (by go_simp)
  have c4 : w1.cell? ⟨w.heap.size, 4, none⟩ = some (.int .i64 x.s2) := bcell hb1 (by go_simp)
  have c5 : w1.cell? ⟨w.heap.size, 5, none⟩ = some (.int .i64 x.s3) := bcell hb1 (by go_simp)
  have c6 : w1.cell? ⟨w.heap.size, 6, none⟩ = some (.int .i64 x.s4) := bcell hb1 (by go_simp)
  have B1 := below_next (below_alloc (Below.refl w.heap.size w) _) hb1
  go_wp2_with fail
  refine (may x.mail _).mono ?_
  rintro e w2 ⟨rfl, hb2⟩
  rw [hm]
  replace c0 := bcell hb2 c0
  replace c1 := bcell hb2 c1
  replace c2 := bcell hb2 c2
  replace c3 := bcell hb2 c3
  replace c4 := bcell hb2 c4
  replace c5 := bcell hb2 c5
  replace c6 := bcell hb2 c6
  have B2 := below_next B1 hb2
  go_wp2_with fail
  refine (words w.heap.size _).mono ?_
  rintro e w3 ⟨rfl, hb3⟩
  replace c0 := bcell hb3 c0
  replace c1 := bcell hb3 c1
  replace c2 := bcell hb3 c2
  replace c3 := bcell hb3 c3
  replace c4 := bcell hb3 c4
  replace c5 := bcell hb3 c5
  replace c6 := bcell hb3 c6
  have B3 := below_next B2 hb3
  simp only [plc]
  have i0 := idx0
  have i1 := idx1
  have i2 := idx2
  have i3 := idx3
  have i4 := idx4
  go_wp2
  refine wp_loop_rounds 6 ?_
  rw [rounds_succ]
  go_wp2
  go_ret2
  exact ⟨rfl, B3⟩

set_option maxRecDepth 100000 in
set_option maxHeartbeats 2000000 in
theorem soaHi0 (x : Soa) (w : World) (hn : nameB x.host = true) (hm : nameB x.mail = true)  (gb : wideB x.s0 = false) (hx : 4294967295 < x.s0) : Calls Try.prog 35 #[x.val] w fun e w' => e = ans x.S x.E ∧ Below w.heap.size w w' := by
  have e1 : x.ok = false := by unfold Soa.ok; rw [hn, hm, gb]; simp
  have e2 : x.S = emp := by unfold Soa.S; rw [e1]; rfl
  have e3 : x.E = 400 := by unfold Soa.E; rw [e1]; rfl
  unfold ans
  rw [e2, e3]
  have a0 : decide (x.s0 < 0) = false := decide_eq_false (by omega)
  have b0 : decide (4294967295 < x.s0) = true := decide_eq_true hx
  have hz := nameB_size hn
  have hy := nameB_size hm
  have l0 : ¬ 9223372036854775807 < (x.host).size + x.mail.size := by (try simp only [ByteArray.size_append, p32_size]); omega
  clear hx gb e1 e2 e3 hz hy
  unfold Soa.val
  go_enter Try.func35, Try.ntmps35
  go_wp2_with fail
  refine (may x.host _).mono ?_
  rintro e w1 ⟨rfl, hb1⟩
  rw [hn]
  have c0 : w1.cell? ⟨w.heap.size, 0, none⟩ = some (.string x.host) := bcell hb1 (by go_simp)
  have c1 : w1.cell? ⟨w.heap.size, 1, none⟩ = some (.string x.mail) := bcell hb1 (by go_simp)
  have c2 : w1.cell? ⟨w.heap.size, 2, none⟩ = some (.int .i64 x.s0) := bcell hb1 (by go_simp)
  have c3 : w1.cell? ⟨w.heap.size, 3, none⟩ = some (.int .i64 x.s1) := bcell hb1 (by go_simp)
  have c4 : w1.cell? ⟨w.heap.size, 4, none⟩ = some (.int .i64 x.s2) := bcell hb1 (by go_simp)
  have c5 : w1.cell? ⟨w.heap.size, 5, none⟩ = some (.int .i64 x.s3) := bcell hb1 (by go_simp)
  have c6 : w1.cell? ⟨w.heap.size, 6, none⟩ = some (.int .i64 x.s4) := bcell hb1 (by go_simp)
  have B1 := below_next (below_alloc (Below.refl w.heap.size w) _) hb1
  go_wp2_with fail
  refine (may x.mail _).mono ?_
  rintro e w2 ⟨rfl, hb2⟩
  rw [hm]
  replace c0 := bcell hb2 c0
  replace c1 := bcell hb2 c1
  replace c2 := bcell hb2 c2
  replace c3 := bcell hb2 c3
  replace c4 := bcell hb2 c4
  replace c5 := bcell hb2 c5
  replace c6 := bcell hb2 c6
  have B2 := below_next B1 hb2
  go_wp2_with fail
  refine (words w.heap.size _).mono ?_
  rintro e w3 ⟨rfl, hb3⟩
  replace c0 := bcell hb3 c0
  replace c1 := bcell hb3 c1
  replace c2 := bcell hb3 c2
  replace c3 := bcell hb3 c3
  replace c4 := bcell hb3 c4
  replace c5 := bcell hb3 c5
  replace c6 := bcell hb3 c6
  have B3 := below_next B2 hb3
  simp only [plc]
  have i0 := idx0
  have i1 := idx1
  have i2 := idx2
  have i3 := idx3
  have i4 := idx4
  go_wp2
  refine wp_loop_rounds 6 ?_
  rw [rounds_succ]
  go_wp2
  go_ret2
  exact ⟨rfl, B3⟩

set_option maxRecDepth 100000 in
set_option maxHeartbeats 2000000 in
theorem soaLo1 (x : Soa) (w : World) (hn : nameB x.host = true) (hm : nameB x.mail = true) (g0 : wideB x.s0 = true) (gb : wideB x.s1 = false) (hx : x.s1 < 0) : Calls Try.prog 35 #[x.val] w fun e w' => e = ans x.S x.E ∧ Below w.heap.size w w' := by
  have e1 : x.ok = false := by unfold Soa.ok; rw [hn, hm, g0, gb]; simp
  have e2 : x.S = emp := by unfold Soa.S; rw [e1]; rfl
  have e3 : x.E = 400 := by unfold Soa.E; rw [e1]; rfl
  unfold ans
  rw [e2, e3]
  have a0 : decide (x.s0 < 0) = false := decide_eq_false (by have := wideB_iff.1 g0; omega)
  have b0 : decide (4294967295 < x.s0) = false := decide_eq_false (by have := wideB_iff.1 g0; omega)
  have a1 : decide (x.s1 < 0) = true := decide_eq_true hx
  have hz := nameB_size hn
  have hy := nameB_size hm
  have l0 : ¬ 9223372036854775807 < (x.host).size + x.mail.size := by (try simp only [ByteArray.size_append, p32_size]); omega
  have l1 : ¬ 9223372036854775807 < (x.host ++ x.mail).size + (p32 x.s0).size := by (try simp only [ByteArray.size_append, p32_size]); omega
  clear g0 hx gb e1 e2 e3 hz hy
  unfold Soa.val
  go_enter Try.func35, Try.ntmps35
  go_wp2_with fail
  refine (may x.host _).mono ?_
  rintro e w1 ⟨rfl, hb1⟩
  rw [hn]
  have c0 : w1.cell? ⟨w.heap.size, 0, none⟩ = some (.string x.host) := bcell hb1 (by go_simp)
  have c1 : w1.cell? ⟨w.heap.size, 1, none⟩ = some (.string x.mail) := bcell hb1 (by go_simp)
  have c2 : w1.cell? ⟨w.heap.size, 2, none⟩ = some (.int .i64 x.s0) := bcell hb1 (by go_simp)
  have c3 : w1.cell? ⟨w.heap.size, 3, none⟩ = some (.int .i64 x.s1) := bcell hb1 (by go_simp)
  have c4 : w1.cell? ⟨w.heap.size, 4, none⟩ = some (.int .i64 x.s2) := bcell hb1 (by go_simp)
  have c5 : w1.cell? ⟨w.heap.size, 5, none⟩ = some (.int .i64 x.s3) := bcell hb1 (by go_simp)
  have c6 : w1.cell? ⟨w.heap.size, 6, none⟩ = some (.int .i64 x.s4) := bcell hb1 (by go_simp)
  have B1 := below_next (below_alloc (Below.refl w.heap.size w) _) hb1
  go_wp2_with fail
  refine (may x.mail _).mono ?_
  rintro e w2 ⟨rfl, hb2⟩
  rw [hm]
  replace c0 := bcell hb2 c0
  replace c1 := bcell hb2 c1
  replace c2 := bcell hb2 c2
  replace c3 := bcell hb2 c3
  replace c4 := bcell hb2 c4
  replace c5 := bcell hb2 c5
  replace c6 := bcell hb2 c6
  have B2 := below_next B1 hb2
  go_wp2_with fail
  refine (words w.heap.size _).mono ?_
  rintro e w3 ⟨rfl, hb3⟩
  replace c0 := bcell hb3 c0
  replace c1 := bcell hb3 c1
  replace c2 := bcell hb3 c2
  replace c3 := bcell hb3 c3
  replace c4 := bcell hb3 c4
  replace c5 := bcell hb3 c5
  replace c6 := bcell hb3 c6
  have B3 := below_next B2 hb3
  simp only [plc]
  have i0 := idx0
  have i1 := idx1
  have i2 := idx2
  have i3 := idx3
  have i4 := idx4
  go_wp2
  refine wp_loop_rounds 6 ?_
  rw [rounds_succ]
  go_wp2_with fail
  refine (put32 x.s0 _).mono ?_
  rintro e w4 ⟨rfl, hb4⟩
  replace c2 := bcell hb4 c2
  replace c3 := bcell hb4 c3
  replace c4 := bcell hb4 c4
  replace c5 := bcell hb4 c5
  replace c6 := bcell hb4 c6
  have B4 := below_next B3 hb4
  go_wp2
  rw [rounds_succ]
  go_wp2
  go_ret2
  exact ⟨rfl, B4⟩

set_option maxRecDepth 100000 in
set_option maxHeartbeats 2000000 in
theorem soaHi1 (x : Soa) (w : World) (hn : nameB x.host = true) (hm : nameB x.mail = true) (g0 : wideB x.s0 = true) (gb : wideB x.s1 = false) (hx : 4294967295 < x.s1) : Calls Try.prog 35 #[x.val] w fun e w' => e = ans x.S x.E ∧ Below w.heap.size w w' := by
  have e1 : x.ok = false := by unfold Soa.ok; rw [hn, hm, g0, gb]; simp
  have e2 : x.S = emp := by unfold Soa.S; rw [e1]; rfl
  have e3 : x.E = 400 := by unfold Soa.E; rw [e1]; rfl
  unfold ans
  rw [e2, e3]
  have a0 : decide (x.s0 < 0) = false := decide_eq_false (by have := wideB_iff.1 g0; omega)
  have b0 : decide (4294967295 < x.s0) = false := decide_eq_false (by have := wideB_iff.1 g0; omega)
  have a1 : decide (x.s1 < 0) = false := decide_eq_false (by omega)
  have b1 : decide (4294967295 < x.s1) = true := decide_eq_true hx
  have hz := nameB_size hn
  have hy := nameB_size hm
  have l0 : ¬ 9223372036854775807 < (x.host).size + x.mail.size := by (try simp only [ByteArray.size_append, p32_size]); omega
  have l1 : ¬ 9223372036854775807 < (x.host ++ x.mail).size + (p32 x.s0).size := by (try simp only [ByteArray.size_append, p32_size]); omega
  clear g0 hx gb e1 e2 e3 hz hy
  unfold Soa.val
  go_enter Try.func35, Try.ntmps35
  go_wp2_with fail
  refine (may x.host _).mono ?_
  rintro e w1 ⟨rfl, hb1⟩
  rw [hn]
  have c0 : w1.cell? ⟨w.heap.size, 0, none⟩ = some (.string x.host) := bcell hb1 (by go_simp)
  have c1 : w1.cell? ⟨w.heap.size, 1, none⟩ = some (.string x.mail) := bcell hb1 (by go_simp)
  have c2 : w1.cell? ⟨w.heap.size, 2, none⟩ = some (.int .i64 x.s0) := bcell hb1 (by go_simp)
  have c3 : w1.cell? ⟨w.heap.size, 3, none⟩ = some (.int .i64 x.s1) := bcell hb1 (by go_simp)
  have c4 : w1.cell? ⟨w.heap.size, 4, none⟩ = some (.int .i64 x.s2) := bcell hb1 (by go_simp)
  have c5 : w1.cell? ⟨w.heap.size, 5, none⟩ = some (.int .i64 x.s3) := bcell hb1 (by go_simp)
  have c6 : w1.cell? ⟨w.heap.size, 6, none⟩ = some (.int .i64 x.s4) := bcell hb1 (by go_simp)
  have B1 := below_next (below_alloc (Below.refl w.heap.size w) _) hb1
  go_wp2_with fail
  refine (may x.mail _).mono ?_
  rintro e w2 ⟨rfl, hb2⟩
  rw [hm]
  replace c0 := bcell hb2 c0
  replace c1 := bcell hb2 c1
  replace c2 := bcell hb2 c2
  replace c3 := bcell hb2 c3
  replace c4 := bcell hb2 c4
  replace c5 := bcell hb2 c5
  replace c6 := bcell hb2 c6
  have B2 := below_next B1 hb2
  go_wp2_with fail
  refine (words w.heap.size _).mono ?_
  rintro e w3 ⟨rfl, hb3⟩
  replace c0 := bcell hb3 c0
  replace c1 := bcell hb3 c1
  replace c2 := bcell hb3 c2
  replace c3 := bcell hb3 c3
  replace c4 := bcell hb3 c4
  replace c5 := bcell hb3 c5
  replace c6 := bcell hb3 c6
  have B3 := below_next B2 hb3
  simp only [plc]
  have i0 := idx0
  have i1 := idx1
  have i2 := idx2
  have i3 := idx3
  have i4 := idx4
  go_wp2
  refine wp_loop_rounds 6 ?_
  rw [rounds_succ]
  go_wp2_with fail
  refine (put32 x.s0 _).mono ?_
  rintro e w4 ⟨rfl, hb4⟩
  replace c2 := bcell hb4 c2
  replace c3 := bcell hb4 c3
  replace c4 := bcell hb4 c4
  replace c5 := bcell hb4 c5
  replace c6 := bcell hb4 c6
  have B4 := below_next B3 hb4
  go_wp2
  rw [rounds_succ]
  go_wp2
  go_ret2
  exact ⟨rfl, B4⟩

set_option maxRecDepth 100000 in
set_option maxHeartbeats 2000000 in
theorem soaLo2 (x : Soa) (w : World) (hn : nameB x.host = true) (hm : nameB x.mail = true) (g0 : wideB x.s0 = true) (g1 : wideB x.s1 = true) (gb : wideB x.s2 = false) (hx : x.s2 < 0) : Calls Try.prog 35 #[x.val] w fun e w' => e = ans x.S x.E ∧ Below w.heap.size w w' := by
  have e1 : x.ok = false := by unfold Soa.ok; rw [hn, hm, g0, g1, gb]; simp
  have e2 : x.S = emp := by unfold Soa.S; rw [e1]; rfl
  have e3 : x.E = 400 := by unfold Soa.E; rw [e1]; rfl
  unfold ans
  rw [e2, e3]
  have a0 : decide (x.s0 < 0) = false := decide_eq_false (by have := wideB_iff.1 g0; omega)
  have b0 : decide (4294967295 < x.s0) = false := decide_eq_false (by have := wideB_iff.1 g0; omega)
  have a1 : decide (x.s1 < 0) = false := decide_eq_false (by have := wideB_iff.1 g1; omega)
  have b1 : decide (4294967295 < x.s1) = false := decide_eq_false (by have := wideB_iff.1 g1; omega)
  have a2 : decide (x.s2 < 0) = true := decide_eq_true hx
  have hz := nameB_size hn
  have hy := nameB_size hm
  have l0 : ¬ 9223372036854775807 < (x.host).size + x.mail.size := by (try simp only [ByteArray.size_append, p32_size]); omega
  have l1 : ¬ 9223372036854775807 < (x.host ++ x.mail).size + (p32 x.s0).size := by (try simp only [ByteArray.size_append, p32_size]); omega
  have l2 : ¬ 9223372036854775807 < (x.host ++ x.mail ++ (p32 x.s0)).size + (p32 x.s1).size := by (try simp only [ByteArray.size_append, p32_size]); omega
  clear g0 g1 hx gb e1 e2 e3 hz hy
  unfold Soa.val
  go_enter Try.func35, Try.ntmps35
  go_wp2_with fail
  refine (may x.host _).mono ?_
  rintro e w1 ⟨rfl, hb1⟩
  rw [hn]
  have c0 : w1.cell? ⟨w.heap.size, 0, none⟩ = some (.string x.host) := bcell hb1 (by go_simp)
  have c1 : w1.cell? ⟨w.heap.size, 1, none⟩ = some (.string x.mail) := bcell hb1 (by go_simp)
  have c2 : w1.cell? ⟨w.heap.size, 2, none⟩ = some (.int .i64 x.s0) := bcell hb1 (by go_simp)
  have c3 : w1.cell? ⟨w.heap.size, 3, none⟩ = some (.int .i64 x.s1) := bcell hb1 (by go_simp)
  have c4 : w1.cell? ⟨w.heap.size, 4, none⟩ = some (.int .i64 x.s2) := bcell hb1 (by go_simp)
  have c5 : w1.cell? ⟨w.heap.size, 5, none⟩ = some (.int .i64 x.s3) := bcell hb1 (by go_simp)
  have c6 : w1.cell? ⟨w.heap.size, 6, none⟩ = some (.int .i64 x.s4) := bcell hb1 (by go_simp)
  have B1 := below_next (below_alloc (Below.refl w.heap.size w) _) hb1
  go_wp2_with fail
  refine (may x.mail _).mono ?_
  rintro e w2 ⟨rfl, hb2⟩
  rw [hm]
  replace c0 := bcell hb2 c0
  replace c1 := bcell hb2 c1
  replace c2 := bcell hb2 c2
  replace c3 := bcell hb2 c3
  replace c4 := bcell hb2 c4
  replace c5 := bcell hb2 c5
  replace c6 := bcell hb2 c6
  have B2 := below_next B1 hb2
  go_wp2_with fail
  refine (words w.heap.size _).mono ?_
  rintro e w3 ⟨rfl, hb3⟩
  replace c0 := bcell hb3 c0
  replace c1 := bcell hb3 c1
  replace c2 := bcell hb3 c2
  replace c3 := bcell hb3 c3
  replace c4 := bcell hb3 c4
  replace c5 := bcell hb3 c5
  replace c6 := bcell hb3 c6
  have B3 := below_next B2 hb3
  simp only [plc]
  have i0 := idx0
  have i1 := idx1
  have i2 := idx2
  have i3 := idx3
  have i4 := idx4
  go_wp2
  refine wp_loop_rounds 6 ?_
  rw [rounds_succ]
  go_wp2_with fail
  refine (put32 x.s0 _).mono ?_
  rintro e w4 ⟨rfl, hb4⟩
  replace c2 := bcell hb4 c2
  replace c3 := bcell hb4 c3
  replace c4 := bcell hb4 c4
  replace c5 := bcell hb4 c5
  replace c6 := bcell hb4 c6
  have B4 := below_next B3 hb4
  go_wp2
  rw [rounds_succ]
  go_wp2_with fail
  refine (put32 x.s1 _).mono ?_
  rintro e w5 ⟨rfl, hb5⟩
  replace c2 := bcell hb5 c2
  replace c3 := bcell hb5 c3
  replace c4 := bcell hb5 c4
  replace c5 := bcell hb5 c5
  replace c6 := bcell hb5 c6
  have B5 := below_next B4 hb5
  go_wp2
  rw [rounds_succ]
  go_wp2
  go_ret2
  exact ⟨rfl, B5⟩

set_option maxRecDepth 100000 in
set_option maxHeartbeats 2000000 in
theorem soaHi2 (x : Soa) (w : World) (hn : nameB x.host = true) (hm : nameB x.mail = true) (g0 : wideB x.s0 = true) (g1 : wideB x.s1 = true) (gb : wideB x.s2 = false) (hx : 4294967295 < x.s2) : Calls Try.prog 35 #[x.val] w fun e w' => e = ans x.S x.E ∧ Below w.heap.size w w' := by
  have e1 : x.ok = false := by unfold Soa.ok; rw [hn, hm, g0, g1, gb]; simp
  have e2 : x.S = emp := by unfold Soa.S; rw [e1]; rfl
  have e3 : x.E = 400 := by unfold Soa.E; rw [e1]; rfl
  unfold ans
  rw [e2, e3]
  have a0 : decide (x.s0 < 0) = false := decide_eq_false (by have := wideB_iff.1 g0; omega)
  have b0 : decide (4294967295 < x.s0) = false := decide_eq_false (by have := wideB_iff.1 g0; omega)
  have a1 : decide (x.s1 < 0) = false := decide_eq_false (by have := wideB_iff.1 g1; omega)
  have b1 : decide (4294967295 < x.s1) = false := decide_eq_false (by have := wideB_iff.1 g1; omega)
  have a2 : decide (x.s2 < 0) = false := decide_eq_false (by omega)
  have b2 : decide (4294967295 < x.s2) = true := decide_eq_true hx
  have hz := nameB_size hn
  have hy := nameB_size hm
  have l0 : ¬ 9223372036854775807 < (x.host).size + x.mail.size := by (try simp only [ByteArray.size_append, p32_size]); omega
  have l1 : ¬ 9223372036854775807 < (x.host ++ x.mail).size + (p32 x.s0).size := by (try simp only [ByteArray.size_append, p32_size]); omega
  have l2 : ¬ 9223372036854775807 < (x.host ++ x.mail ++ (p32 x.s0)).size + (p32 x.s1).size := by (try simp only [ByteArray.size_append, p32_size]); omega
  clear g0 g1 hx gb e1 e2 e3 hz hy
  unfold Soa.val
  go_enter Try.func35, Try.ntmps35
  go_wp2_with fail
  refine (may x.host _).mono ?_
  rintro e w1 ⟨rfl, hb1⟩
  rw [hn]
  have c0 : w1.cell? ⟨w.heap.size, 0, none⟩ = some (.string x.host) := bcell hb1 (by go_simp)
  have c1 : w1.cell? ⟨w.heap.size, 1, none⟩ = some (.string x.mail) := bcell hb1 (by go_simp)
  have c2 : w1.cell? ⟨w.heap.size, 2, none⟩ = some (.int .i64 x.s0) := bcell hb1 (by go_simp)
  have c3 : w1.cell? ⟨w.heap.size, 3, none⟩ = some (.int .i64 x.s1) := bcell hb1 (by go_simp)
  have c4 : w1.cell? ⟨w.heap.size, 4, none⟩ = some (.int .i64 x.s2) := bcell hb1 (by go_simp)
  have c5 : w1.cell? ⟨w.heap.size, 5, none⟩ = some (.int .i64 x.s3) := bcell hb1 (by go_simp)
  have c6 : w1.cell? ⟨w.heap.size, 6, none⟩ = some (.int .i64 x.s4) := bcell hb1 (by go_simp)
  have B1 := below_next (below_alloc (Below.refl w.heap.size w) _) hb1
  go_wp2_with fail
  refine (may x.mail _).mono ?_
  rintro e w2 ⟨rfl, hb2⟩
  rw [hm]
  replace c0 := bcell hb2 c0
  replace c1 := bcell hb2 c1
  replace c2 := bcell hb2 c2
  replace c3 := bcell hb2 c3
  replace c4 := bcell hb2 c4
  replace c5 := bcell hb2 c5
  replace c6 := bcell hb2 c6
  have B2 := below_next B1 hb2
  go_wp2_with fail
  refine (words w.heap.size _).mono ?_
  rintro e w3 ⟨rfl, hb3⟩
  replace c0 := bcell hb3 c0
  replace c1 := bcell hb3 c1
  replace c2 := bcell hb3 c2
  replace c3 := bcell hb3 c3
  replace c4 := bcell hb3 c4
  replace c5 := bcell hb3 c5
  replace c6 := bcell hb3 c6
  have B3 := below_next B2 hb3
  simp only [plc]
  have i0 := idx0
  have i1 := idx1
  have i2 := idx2
  have i3 := idx3
  have i4 := idx4
  go_wp2
  refine wp_loop_rounds 6 ?_
  rw [rounds_succ]
  go_wp2_with fail
  refine (put32 x.s0 _).mono ?_
  rintro e w4 ⟨rfl, hb4⟩
  replace c2 := bcell hb4 c2
  replace c3 := bcell hb4 c3
  replace c4 := bcell hb4 c4
  replace c5 := bcell hb4 c5
  replace c6 := bcell hb4 c6
  have B4 := below_next B3 hb4
  go_wp2
  rw [rounds_succ]
  go_wp2_with fail
  refine (put32 x.s1 _).mono ?_
  rintro e w5 ⟨rfl, hb5⟩
  replace c2 := bcell hb5 c2
  replace c3 := bcell hb5 c3
  replace c4 := bcell hb5 c4
  replace c5 := bcell hb5 c5
  replace c6 := bcell hb5 c6
  have B5 := below_next B4 hb5
  go_wp2
  rw [rounds_succ]
  go_wp2
  go_ret2
  exact ⟨rfl, B5⟩

set_option maxRecDepth 100000 in
set_option maxHeartbeats 2000000 in
theorem soaLo3 (x : Soa) (w : World) (hn : nameB x.host = true) (hm : nameB x.mail = true) (g0 : wideB x.s0 = true) (g1 : wideB x.s1 = true) (g2 : wideB x.s2 = true) (gb : wideB x.s3 = false) (hx : x.s3 < 0) : Calls Try.prog 35 #[x.val] w fun e w' => e = ans x.S x.E ∧ Below w.heap.size w w' := by
  have e1 : x.ok = false := by unfold Soa.ok; rw [hn, hm, g0, g1, g2, gb]; simp
  have e2 : x.S = emp := by unfold Soa.S; rw [e1]; rfl
  have e3 : x.E = 400 := by unfold Soa.E; rw [e1]; rfl
  unfold ans
  rw [e2, e3]
  have a0 : decide (x.s0 < 0) = false := decide_eq_false (by have := wideB_iff.1 g0; omega)
  have b0 : decide (4294967295 < x.s0) = false := decide_eq_false (by have := wideB_iff.1 g0; omega)
  have a1 : decide (x.s1 < 0) = false := decide_eq_false (by have := wideB_iff.1 g1; omega)
  have b1 : decide (4294967295 < x.s1) = false := decide_eq_false (by have := wideB_iff.1 g1; omega)
  have a2 : decide (x.s2 < 0) = false := decide_eq_false (by have := wideB_iff.1 g2; omega)
  have b2 : decide (4294967295 < x.s2) = false := decide_eq_false (by have := wideB_iff.1 g2; omega)
  have a3 : decide (x.s3 < 0) = true := decide_eq_true hx
  have hz := nameB_size hn
  have hy := nameB_size hm
  have l0 : ¬ 9223372036854775807 < (x.host).size + x.mail.size := by (try simp only [ByteArray.size_append, p32_size]); omega
  have l1 : ¬ 9223372036854775807 < (x.host ++ x.mail).size + (p32 x.s0).size := by (try simp only [ByteArray.size_append, p32_size]); omega
  have l2 : ¬ 9223372036854775807 < (x.host ++ x.mail ++ (p32 x.s0)).size + (p32 x.s1).size := by (try simp only [ByteArray.size_append, p32_size]); omega
  have l3 : ¬ 9223372036854775807 < (x.host ++ x.mail ++ (p32 x.s0) ++ (p32 x.s1)).size + (p32 x.s2).size := by (try simp only [ByteArray.size_append, p32_size]); omega
  clear g0 g1 g2 hx gb e1 e2 e3 hz hy
  unfold Soa.val
  go_enter Try.func35, Try.ntmps35
  go_wp2_with fail
  refine (may x.host _).mono ?_
  rintro e w1 ⟨rfl, hb1⟩
  rw [hn]
  have c0 : w1.cell? ⟨w.heap.size, 0, none⟩ = some (.string x.host) := bcell hb1 (by go_simp)
  have c1 : w1.cell? ⟨w.heap.size, 1, none⟩ = some (.string x.mail) := bcell hb1 (by go_simp)
  have c2 : w1.cell? ⟨w.heap.size, 2, none⟩ = some (.int .i64 x.s0) := bcell hb1 (by go_simp)
  have c3 : w1.cell? ⟨w.heap.size, 3, none⟩ = some (.int .i64 x.s1) := bcell hb1 (by go_simp)
  have c4 : w1.cell? ⟨w.heap.size, 4, none⟩ = some (.int .i64 x.s2) := bcell hb1 (by go_simp)
  have c5 : w1.cell? ⟨w.heap.size, 5, none⟩ = some (.int .i64 x.s3) := bcell hb1 (by go_simp)
  have c6 : w1.cell? ⟨w.heap.size, 6, none⟩ = some (.int .i64 x.s4) := bcell hb1 (by go_simp)
  have B1 := below_next (below_alloc (Below.refl w.heap.size w) _) hb1
  go_wp2_with fail
  refine (may x.mail _).mono ?_
  rintro e w2 ⟨rfl, hb2⟩
  rw [hm]
  replace c0 := bcell hb2 c0
  replace c1 := bcell hb2 c1
  replace c2 := bcell hb2 c2
  replace c3 := bcell hb2 c3
  replace c4 := bcell hb2 c4
  replace c5 := bcell hb2 c5
  replace c6 := bcell hb2 c6
  have B2 := below_next B1 hb2
  go_wp2_with fail
  refine (words w.heap.size _).mono ?_
  rintro e w3 ⟨rfl, hb3⟩
  replace c0 := bcell hb3 c0
  replace c1 := bcell hb3 c1
  replace c2 := bcell hb3 c2
  replace c3 := bcell hb3 c3
  replace c4 := bcell hb3 c4
  replace c5 := bcell hb3 c5
  replace c6 := bcell hb3 c6
  have B3 := below_next B2 hb3
  simp only [plc]
  have i0 := idx0
  have i1 := idx1
  have i2 := idx2
  have i3 := idx3
  have i4 := idx4
  go_wp2
  refine wp_loop_rounds 6 ?_
  rw [rounds_succ]
  go_wp2_with fail
  refine (put32 x.s0 _).mono ?_
  rintro e w4 ⟨rfl, hb4⟩
  replace c2 := bcell hb4 c2
  replace c3 := bcell hb4 c3
  replace c4 := bcell hb4 c4
  replace c5 := bcell hb4 c5
  replace c6 := bcell hb4 c6
  have B4 := below_next B3 hb4
  go_wp2
  rw [rounds_succ]
  go_wp2_with fail
  refine (put32 x.s1 _).mono ?_
  rintro e w5 ⟨rfl, hb5⟩
  replace c2 := bcell hb5 c2
  replace c3 := bcell hb5 c3
  replace c4 := bcell hb5 c4
  replace c5 := bcell hb5 c5
  replace c6 := bcell hb5 c6
  have B5 := below_next B4 hb5
  go_wp2
  rw [rounds_succ]
  go_wp2_with fail
  refine (put32 x.s2 _).mono ?_
  rintro e w6 ⟨rfl, hb6⟩
  replace c2 := bcell hb6 c2
  replace c3 := bcell hb6 c3
  replace c4 := bcell hb6 c4
  replace c5 := bcell hb6 c5
  replace c6 := bcell hb6 c6
  have B6 := below_next B5 hb6
  go_wp2
  rw [rounds_succ]
  go_wp2
  go_ret2
  exact ⟨rfl, B6⟩

set_option maxRecDepth 100000 in
set_option maxHeartbeats 2000000 in
theorem soaHi3 (x : Soa) (w : World) (hn : nameB x.host = true) (hm : nameB x.mail = true) (g0 : wideB x.s0 = true) (g1 : wideB x.s1 = true) (g2 : wideB x.s2 = true) (gb : wideB x.s3 = false) (hx : 4294967295 < x.s3) : Calls Try.prog 35 #[x.val] w fun e w' => e = ans x.S x.E ∧ Below w.heap.size w w' := by
  have e1 : x.ok = false := by unfold Soa.ok; rw [hn, hm, g0, g1, g2, gb]; simp
  have e2 : x.S = emp := by unfold Soa.S; rw [e1]; rfl
  have e3 : x.E = 400 := by unfold Soa.E; rw [e1]; rfl
  unfold ans
  rw [e2, e3]
  have a0 : decide (x.s0 < 0) = false := decide_eq_false (by have := wideB_iff.1 g0; omega)
  have b0 : decide (4294967295 < x.s0) = false := decide_eq_false (by have := wideB_iff.1 g0; omega)
  have a1 : decide (x.s1 < 0) = false := decide_eq_false (by have := wideB_iff.1 g1; omega)
  have b1 : decide (4294967295 < x.s1) = false := decide_eq_false (by have := wideB_iff.1 g1; omega)
  have a2 : decide (x.s2 < 0) = false := decide_eq_false (by have := wideB_iff.1 g2; omega)
  have b2 : decide (4294967295 < x.s2) = false := decide_eq_false (by have := wideB_iff.1 g2; omega)
  have a3 : decide (x.s3 < 0) = false := decide_eq_false (by omega)
  have b3 : decide (4294967295 < x.s3) = true := decide_eq_true hx
  have hz := nameB_size hn
  have hy := nameB_size hm
  have l0 : ¬ 9223372036854775807 < (x.host).size + x.mail.size := by (try simp only [ByteArray.size_append, p32_size]); omega
  have l1 : ¬ 9223372036854775807 < (x.host ++ x.mail).size + (p32 x.s0).size := by (try simp only [ByteArray.size_append, p32_size]); omega
  have l2 : ¬ 9223372036854775807 < (x.host ++ x.mail ++ (p32 x.s0)).size + (p32 x.s1).size := by (try simp only [ByteArray.size_append, p32_size]); omega
  have l3 : ¬ 9223372036854775807 < (x.host ++ x.mail ++ (p32 x.s0) ++ (p32 x.s1)).size + (p32 x.s2).size := by (try simp only [ByteArray.size_append, p32_size]); omega
  clear g0 g1 g2 hx gb e1 e2 e3 hz hy
  unfold Soa.val
  go_enter Try.func35, Try.ntmps35
  go_wp2_with fail
  refine (may x.host _).mono ?_
  rintro e w1 ⟨rfl, hb1⟩
  rw [hn]
  have c0 : w1.cell? ⟨w.heap.size, 0, none⟩ = some (.string x.host) := bcell hb1 (by go_simp)
  have c1 : w1.cell? ⟨w.heap.size, 1, none⟩ = some (.string x.mail) := bcell hb1 (by go_simp)
  have c2 : w1.cell? ⟨w.heap.size, 2, none⟩ = some (.int .i64 x.s0) := bcell hb1 (by go_simp)
  have c3 : w1.cell? ⟨w.heap.size, 3, none⟩ = some (.int .i64 x.s1) := bcell hb1 (by go_simp)
  have c4 : w1.cell? ⟨w.heap.size, 4, none⟩ = some (.int .i64 x.s2) := bcell hb1 (by go_simp)
  have c5 : w1.cell? ⟨w.heap.size, 5, none⟩ = some (.int .i64 x.s3) := bcell hb1 (by go_simp)
  have c6 : w1.cell? ⟨w.heap.size, 6, none⟩ = some (.int .i64 x.s4) := bcell hb1 (by go_simp)
  have B1 := below_next (below_alloc (Below.refl w.heap.size w) _) hb1
  go_wp2_with fail
  refine (may x.mail _).mono ?_
  rintro e w2 ⟨rfl, hb2⟩
  rw [hm]
  replace c0 := bcell hb2 c0
  replace c1 := bcell hb2 c1
  replace c2 := bcell hb2 c2
  replace c3 := bcell hb2 c3
  replace c4 := bcell hb2 c4
  replace c5 := bcell hb2 c5
  replace c6 := bcell hb2 c6
  have B2 := below_next B1 hb2
  go_wp2_with fail
  refine (words w.heap.size _).mono ?_
  rintro e w3 ⟨rfl, hb3⟩
  replace c0 := bcell hb3 c0
  replace c1 := bcell hb3 c1
  replace c2 := bcell hb3 c2
  replace c3 := bcell hb3 c3
  replace c4 := bcell hb3 c4
  replace c5 := bcell hb3 c5
  replace c6 := bcell hb3 c6
  have B3 := below_next B2 hb3
  simp only [plc]
  have i0 := idx0
  have i1 := idx1
  have i2 := idx2
  have i3 := idx3
  have i4 := idx4
  go_wp2
  refine wp_loop_rounds 6 ?_
  rw [rounds_succ]
  go_wp2_with fail
  refine (put32 x.s0 _).mono ?_
  rintro e w4 ⟨rfl, hb4⟩
  replace c2 := bcell hb4 c2
  replace c3 := bcell hb4 c3
  replace c4 := bcell hb4 c4
  replace c5 := bcell hb4 c5
  replace c6 := bcell hb4 c6
  have B4 := below_next B3 hb4
  go_wp2
  rw [rounds_succ]
  go_wp2_with fail
  refine (put32 x.s1 _).mono ?_
  rintro e w5 ⟨rfl, hb5⟩
  replace c2 := bcell hb5 c2
  replace c3 := bcell hb5 c3
  replace c4 := bcell hb5 c4
  replace c5 := bcell hb5 c5
  replace c6 := bcell hb5 c6
  have B5 := below_next B4 hb5
  go_wp2
  rw [rounds_succ]
  go_wp2_with fail
  refine (put32 x.s2 _).mono ?_
  rintro e w6 ⟨rfl, hb6⟩
  replace c2 := bcell hb6 c2
  replace c3 := bcell hb6 c3
  replace c4 := bcell hb6 c4
  replace c5 := bcell hb6 c5
  replace c6 := bcell hb6 c6
  have B6 := below_next B5 hb6
  go_wp2
  rw [rounds_succ]
  go_wp2
  go_ret2
  exact ⟨rfl, B6⟩

set_option maxRecDepth 100000 in
set_option maxHeartbeats 2000000 in
theorem soaLo4 (x : Soa) (w : World) (hn : nameB x.host = true) (hm : nameB x.mail = true) (g0 : wideB x.s0 = true) (g1 : wideB x.s1 = true) (g2 : wideB x.s2 = true) (g3 : wideB x.s3 = true) (gb : wideB x.s4 = false) (hx : x.s4 < 0) : Calls Try.prog 35 #[x.val] w fun e w' => e = ans x.S x.E ∧ Below w.heap.size w w' := by
  have e1 : x.ok = false := by unfold Soa.ok; rw [hn, hm, g0, g1, g2, g3, gb]; simp
  have e2 : x.S = emp := by unfold Soa.S; rw [e1]; rfl
  have e3 : x.E = 400 := by unfold Soa.E; rw [e1]; rfl
  unfold ans
  rw [e2, e3]
  have a0 : decide (x.s0 < 0) = false := decide_eq_false (by have := wideB_iff.1 g0; omega)
  have b0 : decide (4294967295 < x.s0) = false := decide_eq_false (by have := wideB_iff.1 g0; omega)
  have a1 : decide (x.s1 < 0) = false := decide_eq_false (by have := wideB_iff.1 g1; omega)
  have b1 : decide (4294967295 < x.s1) = false := decide_eq_false (by have := wideB_iff.1 g1; omega)
  have a2 : decide (x.s2 < 0) = false := decide_eq_false (by have := wideB_iff.1 g2; omega)
  have b2 : decide (4294967295 < x.s2) = false := decide_eq_false (by have := wideB_iff.1 g2; omega)
  have a3 : decide (x.s3 < 0) = false := decide_eq_false (by have := wideB_iff.1 g3; omega)
  have b3 : decide (4294967295 < x.s3) = false := decide_eq_false (by have := wideB_iff.1 g3; omega)
  have a4 : decide (x.s4 < 0) = true := decide_eq_true hx
  have hz := nameB_size hn
  have hy := nameB_size hm
  have l0 : ¬ 9223372036854775807 < (x.host).size + x.mail.size := by (try simp only [ByteArray.size_append, p32_size]); omega
  have l1 : ¬ 9223372036854775807 < (x.host ++ x.mail).size + (p32 x.s0).size := by (try simp only [ByteArray.size_append, p32_size]); omega
  have l2 : ¬ 9223372036854775807 < (x.host ++ x.mail ++ (p32 x.s0)).size + (p32 x.s1).size := by (try simp only [ByteArray.size_append, p32_size]); omega
  have l3 : ¬ 9223372036854775807 < (x.host ++ x.mail ++ (p32 x.s0) ++ (p32 x.s1)).size + (p32 x.s2).size := by (try simp only [ByteArray.size_append, p32_size]); omega
  have l4 : ¬ 9223372036854775807 < (x.host ++ x.mail ++ (p32 x.s0) ++ (p32 x.s1) ++ (p32 x.s2)).size + (p32 x.s3).size := by (try simp only [ByteArray.size_append, p32_size]); omega
  clear g0 g1 g2 g3 hx gb e1 e2 e3 hz hy
  unfold Soa.val
  go_enter Try.func35, Try.ntmps35
  go_wp2_with fail
  refine (may x.host _).mono ?_
  rintro e w1 ⟨rfl, hb1⟩
  rw [hn]
  have c0 : w1.cell? ⟨w.heap.size, 0, none⟩ = some (.string x.host) := bcell hb1 (by go_simp)
  have c1 : w1.cell? ⟨w.heap.size, 1, none⟩ = some (.string x.mail) := bcell hb1 (by go_simp)
  have c2 : w1.cell? ⟨w.heap.size, 2, none⟩ = some (.int .i64 x.s0) := bcell hb1 (by go_simp)
  have c3 : w1.cell? ⟨w.heap.size, 3, none⟩ = some (.int .i64 x.s1) := bcell hb1 (by go_simp)
  have c4 : w1.cell? ⟨w.heap.size, 4, none⟩ = some (.int .i64 x.s2) := bcell hb1 (by go_simp)
  have c5 : w1.cell? ⟨w.heap.size, 5, none⟩ = some (.int .i64 x.s3) := bcell hb1 (by go_simp)
  have c6 : w1.cell? ⟨w.heap.size, 6, none⟩ = some (.int .i64 x.s4) := bcell hb1 (by go_simp)
  have B1 := below_next (below_alloc (Below.refl w.heap.size w) _) hb1
  go_wp2_with fail
  refine (may x.mail _).mono ?_
  rintro e w2 ⟨rfl, hb2⟩
  rw [hm]
  replace c0 := bcell hb2 c0
  replace c1 := bcell hb2 c1
  replace c2 := bcell hb2 c2
  replace c3 := bcell hb2 c3
  replace c4 := bcell hb2 c4
  replace c5 := bcell hb2 c5
  replace c6 := bcell hb2 c6
  have B2 := below_next B1 hb2
  go_wp2_with fail
  refine (words w.heap.size _).mono ?_
  rintro e w3 ⟨rfl, hb3⟩
  replace c0 := bcell hb3 c0
  replace c1 := bcell hb3 c1
  replace c2 := bcell hb3 c2
  replace c3 := bcell hb3 c3
  replace c4 := bcell hb3 c4
  replace c5 := bcell hb3 c5
  replace c6 := bcell hb3 c6
  have B3 := below_next B2 hb3
  simp only [plc]
  have i0 := idx0
  have i1 := idx1
  have i2 := idx2
  have i3 := idx3
  have i4 := idx4
  go_wp2
  refine wp_loop_rounds 6 ?_
  rw [rounds_succ]
  go_wp2_with fail
  refine (put32 x.s0 _).mono ?_
  rintro e w4 ⟨rfl, hb4⟩
  replace c2 := bcell hb4 c2
  replace c3 := bcell hb4 c3
  replace c4 := bcell hb4 c4
  replace c5 := bcell hb4 c5
  replace c6 := bcell hb4 c6
  have B4 := below_next B3 hb4
  go_wp2
  rw [rounds_succ]
  go_wp2_with fail
  refine (put32 x.s1 _).mono ?_
  rintro e w5 ⟨rfl, hb5⟩
  replace c2 := bcell hb5 c2
  replace c3 := bcell hb5 c3
  replace c4 := bcell hb5 c4
  replace c5 := bcell hb5 c5
  replace c6 := bcell hb5 c6
  have B5 := below_next B4 hb5
  go_wp2
  rw [rounds_succ]
  go_wp2_with fail
  refine (put32 x.s2 _).mono ?_
  rintro e w6 ⟨rfl, hb6⟩
  replace c2 := bcell hb6 c2
  replace c3 := bcell hb6 c3
  replace c4 := bcell hb6 c4
  replace c5 := bcell hb6 c5
  replace c6 := bcell hb6 c6
  have B6 := below_next B5 hb6
  go_wp2
  rw [rounds_succ]
  go_wp2_with fail
  refine (put32 x.s3 _).mono ?_
  rintro e w7 ⟨rfl, hb7⟩
  replace c2 := bcell hb7 c2
  replace c3 := bcell hb7 c3
  replace c4 := bcell hb7 c4
  replace c5 := bcell hb7 c5
  replace c6 := bcell hb7 c6
  have B7 := below_next B6 hb7
  go_wp2
  rw [rounds_succ]
  go_wp2
  go_ret2
  exact ⟨rfl, B7⟩

set_option maxRecDepth 100000 in
set_option maxHeartbeats 2000000 in
theorem soaHi4 (x : Soa) (w : World) (hn : nameB x.host = true) (hm : nameB x.mail = true) (g0 : wideB x.s0 = true) (g1 : wideB x.s1 = true) (g2 : wideB x.s2 = true) (g3 : wideB x.s3 = true) (gb : wideB x.s4 = false) (hx : 4294967295 < x.s4) : Calls Try.prog 35 #[x.val] w fun e w' => e = ans x.S x.E ∧ Below w.heap.size w w' := by
  have e1 : x.ok = false := by unfold Soa.ok; rw [hn, hm, g0, g1, g2, g3, gb]; simp
  have e2 : x.S = emp := by unfold Soa.S; rw [e1]; rfl
  have e3 : x.E = 400 := by unfold Soa.E; rw [e1]; rfl
  unfold ans
  rw [e2, e3]
  have a0 : decide (x.s0 < 0) = false := decide_eq_false (by have := wideB_iff.1 g0; omega)
  have b0 : decide (4294967295 < x.s0) = false := decide_eq_false (by have := wideB_iff.1 g0; omega)
  have a1 : decide (x.s1 < 0) = false := decide_eq_false (by have := wideB_iff.1 g1; omega)
  have b1 : decide (4294967295 < x.s1) = false := decide_eq_false (by have := wideB_iff.1 g1; omega)
  have a2 : decide (x.s2 < 0) = false := decide_eq_false (by have := wideB_iff.1 g2; omega)
  have b2 : decide (4294967295 < x.s2) = false := decide_eq_false (by have := wideB_iff.1 g2; omega)
  have a3 : decide (x.s3 < 0) = false := decide_eq_false (by have := wideB_iff.1 g3; omega)
  have b3 : decide (4294967295 < x.s3) = false := decide_eq_false (by have := wideB_iff.1 g3; omega)
  have a4 : decide (x.s4 < 0) = false := decide_eq_false (by omega)
  have b4 : decide (4294967295 < x.s4) = true := decide_eq_true hx
  have hz := nameB_size hn
  have hy := nameB_size hm
  have l0 : ¬ 9223372036854775807 < (x.host).size + x.mail.size := by (try simp only [ByteArray.size_append, p32_size]); omega
  have l1 : ¬ 9223372036854775807 < (x.host ++ x.mail).size + (p32 x.s0).size := by (try simp only [ByteArray.size_append, p32_size]); omega
  have l2 : ¬ 9223372036854775807 < (x.host ++ x.mail ++ (p32 x.s0)).size + (p32 x.s1).size := by (try simp only [ByteArray.size_append, p32_size]); omega
  have l3 : ¬ 9223372036854775807 < (x.host ++ x.mail ++ (p32 x.s0) ++ (p32 x.s1)).size + (p32 x.s2).size := by (try simp only [ByteArray.size_append, p32_size]); omega
  have l4 : ¬ 9223372036854775807 < (x.host ++ x.mail ++ (p32 x.s0) ++ (p32 x.s1) ++ (p32 x.s2)).size + (p32 x.s3).size := by (try simp only [ByteArray.size_append, p32_size]); omega
  clear g0 g1 g2 g3 hx gb e1 e2 e3 hz hy
  unfold Soa.val
  go_enter Try.func35, Try.ntmps35
  go_wp2_with fail
  refine (may x.host _).mono ?_
  rintro e w1 ⟨rfl, hb1⟩
  rw [hn]
  have c0 : w1.cell? ⟨w.heap.size, 0, none⟩ = some (.string x.host) := bcell hb1 (by go_simp)
  have c1 : w1.cell? ⟨w.heap.size, 1, none⟩ = some (.string x.mail) := bcell hb1 (by go_simp)
  have c2 : w1.cell? ⟨w.heap.size, 2, none⟩ = some (.int .i64 x.s0) := bcell hb1 (by go_simp)
  have c3 : w1.cell? ⟨w.heap.size, 3, none⟩ = some (.int .i64 x.s1) := bcell hb1 (by go_simp)
  have c4 : w1.cell? ⟨w.heap.size, 4, none⟩ = some (.int .i64 x.s2) := bcell hb1 (by go_simp)
  have c5 : w1.cell? ⟨w.heap.size, 5, none⟩ = some (.int .i64 x.s3) := bcell hb1 (by go_simp)
  have c6 : w1.cell? ⟨w.heap.size, 6, none⟩ = some (.int .i64 x.s4) := bcell hb1 (by go_simp)
  have B1 := below_next (below_alloc (Below.refl w.heap.size w) _) hb1
  go_wp2_with fail
  refine (may x.mail _).mono ?_
  rintro e w2 ⟨rfl, hb2⟩
  rw [hm]
  replace c0 := bcell hb2 c0
  replace c1 := bcell hb2 c1
  replace c2 := bcell hb2 c2
  replace c3 := bcell hb2 c3
  replace c4 := bcell hb2 c4
  replace c5 := bcell hb2 c5
  replace c6 := bcell hb2 c6
  have B2 := below_next B1 hb2
  go_wp2_with fail
  refine (words w.heap.size _).mono ?_
  rintro e w3 ⟨rfl, hb3⟩
  replace c0 := bcell hb3 c0
  replace c1 := bcell hb3 c1
  replace c2 := bcell hb3 c2
  replace c3 := bcell hb3 c3
  replace c4 := bcell hb3 c4
  replace c5 := bcell hb3 c5
  replace c6 := bcell hb3 c6
  have B3 := below_next B2 hb3
  simp only [plc]
  have i0 := idx0
  have i1 := idx1
  have i2 := idx2
  have i3 := idx3
  have i4 := idx4
  go_wp2
  refine wp_loop_rounds 6 ?_
  rw [rounds_succ]
  go_wp2_with fail
  refine (put32 x.s0 _).mono ?_
  rintro e w4 ⟨rfl, hb4⟩
  replace c2 := bcell hb4 c2
  replace c3 := bcell hb4 c3
  replace c4 := bcell hb4 c4
  replace c5 := bcell hb4 c5
  replace c6 := bcell hb4 c6
  have B4 := below_next B3 hb4
  go_wp2
  rw [rounds_succ]
  go_wp2_with fail
  refine (put32 x.s1 _).mono ?_
  rintro e w5 ⟨rfl, hb5⟩
  replace c2 := bcell hb5 c2
  replace c3 := bcell hb5 c3
  replace c4 := bcell hb5 c4
  replace c5 := bcell hb5 c5
  replace c6 := bcell hb5 c6
  have B5 := below_next B4 hb5
  go_wp2
  rw [rounds_succ]
  go_wp2_with fail
  refine (put32 x.s2 _).mono ?_
  rintro e w6 ⟨rfl, hb6⟩
  replace c2 := bcell hb6 c2
  replace c3 := bcell hb6 c3
  replace c4 := bcell hb6 c4
  replace c5 := bcell hb6 c5
  replace c6 := bcell hb6 c6
  have B6 := below_next B5 hb6
  go_wp2
  rw [rounds_succ]
  go_wp2_with fail
  refine (put32 x.s3 _).mono ?_
  rintro e w7 ⟨rfl, hb7⟩
  replace c2 := bcell hb7 c2
  replace c3 := bcell hb7 c3
  replace c4 := bcell hb7 c4
  replace c5 := bcell hb7 c5
  replace c6 := bcell hb7 c6
  have B7 := below_next B6 hb7
  go_wp2
  rw [rounds_succ]
  go_wp2
  go_ret2
  exact ⟨rfl, B7⟩

set_option maxRecDepth 100000 in
set_option maxHeartbeats 2000000 in
theorem soaNoHost (x : Soa) (w : World) (hn : nameB x.host = false) : Calls Try.prog 35 #[x.val] w fun e w' => e = ans x.S x.E ∧ Below w.heap.size w w' := by
  have e1 : x.ok = false := by unfold Soa.ok; rw [hn]; rfl
  have e2 : x.S = emp := by unfold Soa.S; rw [e1]; rfl
  have e3 : x.E = 400 := by unfold Soa.E; rw [e1]; rfl
  unfold ans
  rw [e2, e3]
  unfold Soa.val
  clear e1 e2 e3
  go_enter Try.func35, Try.ntmps35
  go_wp2_with fail
  refine (may x.host _).mono ?_
  rintro e w1 ⟨rfl, hb1⟩
  rw [hn]
  have B1 := below_next (below_alloc (Below.refl w.heap.size w) _) hb1
  go_wp2
  go_ret2
  exact ⟨rfl, B1⟩

set_option maxRecDepth 100000 in
set_option maxHeartbeats 2000000 in
theorem soaNoMail (x : Soa) (w : World) (hn : nameB x.host = true) (hm : nameB x.mail = false) : Calls Try.prog 35 #[x.val] w fun e w' => e = ans x.S x.E ∧ Below w.heap.size w w' := by
  have e1 : x.ok = false := by unfold Soa.ok; rw [hn, hm]; rfl
  have e2 : x.S = emp := by unfold Soa.S; rw [e1]; rfl
  have e3 : x.E = 400 := by unfold Soa.E; rw [e1]; rfl
  unfold ans
  rw [e2, e3]
  unfold Soa.val
  clear e1 e2 e3
  go_enter Try.func35, Try.ntmps35
  go_wp2_with fail
  refine (may x.host _).mono ?_
  rintro e w1 ⟨rfl, hb1⟩
  rw [hn]
  have c0 : w1.cell? ⟨w.heap.size, 0, none⟩ = some (.string x.host) := bcell hb1 (by go_simp)
  have c1 : w1.cell? ⟨w.heap.size, 1, none⟩ = some (.string x.mail) := bcell hb1 (by go_simp)
  have c2 : w1.cell? ⟨w.heap.size, 2, none⟩ = some (.int .i64 x.s0) := bcell hb1 (by go_simp)
  have c3 : w1.cell? ⟨w.heap.size, 3, none⟩ = some (.int .i64 x.s1) := bcell hb1 (by go_simp)
  have c4 : w1.cell? ⟨w.heap.size, 4, none⟩ = some (.int .i64 x.s2) := bcell hb1 (by go_simp)
  have c5 : w1.cell? ⟨w.heap.size, 5, none⟩ = some (.int .i64 x.s3) := bcell hb1 (by go_simp)
  have c6 : w1.cell? ⟨w.heap.size, 6, none⟩ = some (.int .i64 x.s4) := bcell hb1 (by go_simp)
  have B1 := below_next (below_alloc (Below.refl w.heap.size w) _) hb1
  go_wp2_with fail
  refine (may x.mail _).mono ?_
  rintro e w2 ⟨rfl, hb2⟩
  rw [hm]
  have B2 := below_next B1 hb2
  go_wp2
  go_ret2
  exact ⟨rfl, B2⟩

theorem soac (x : Soa) (w : World) : Calls Try.prog 35 #[x.val] w fun e w' => e = ans x.S x.E ∧ Below w.heap.size w w' := by
  cases hn : nameB x.host with
  | false => exact soaNoHost x w hn
  | true =>
  cases hm : nameB x.mail with
  | false => exact soaNoMail x w hn hm
  | true =>
  cases g0 : wideB x.s0 with
  | false =>
    by_cases hx : x.s0 < 0
    · exact soaLo0 x w hn hm  g0 hx
    · exact soaHi0 x w hn hm  g0 (by have := mt wideB_iff.2 (by rw [g0]; simp); omega)
  | true =>
  cases g1 : wideB x.s1 with
  | false =>
    by_cases hx : x.s1 < 0
    · exact soaLo1 x w hn hm g0 g1 hx
    · exact soaHi1 x w hn hm g0 g1 (by have := mt wideB_iff.2 (by rw [g1]; simp); omega)
  | true =>
  cases g2 : wideB x.s2 with
  | false =>
    by_cases hx : x.s2 < 0
    · exact soaLo2 x w hn hm g0 g1 g2 hx
    · exact soaHi2 x w hn hm g0 g1 g2 (by have := mt wideB_iff.2 (by rw [g2]; simp); omega)
  | true =>
  cases g3 : wideB x.s3 with
  | false =>
    by_cases hx : x.s3 < 0
    · exact soaLo3 x w hn hm g0 g1 g2 g3 hx
    · exact soaHi3 x w hn hm g0 g1 g2 g3 (by have := mt wideB_iff.2 (by rw [g3]; simp); omega)
  | true =>
  cases g4 : wideB x.s4 with
  | false =>
    by_cases hx : x.s4 < 0
    · exact soaLo4 x w hn hm g0 g1 g2 g3 g4 hx
    · exact soaHi4 x w hn hm g0 g1 g2 g3 g4 (by have := mt wideB_iff.2 (by rw [g4]; simp); omega)
  | true =>
  exact soaYes x w hn hm g0 g1 g2 g3 g4
end Go.Proofs.Ytndcjleadggibaa.Rd

namespace Go.Proofs.Ytndcjleadggibaa.Rd
open Go.RowKit Go.PlainAid Go.Proofs.Ytndcjleadggibaa.Base Go.Proofs.Ytndcjleadggibaa.Oct Go.Proofs.Ytndcjleadggibaa.Sl Go.Proofs.Ytndcjleadggibaa.Nm
set_option linter.unusedVariables false

set_option maxRecDepth 100000 in
set_option maxHeartbeats 2000000 in
theorem rsoaNo0 (x : Soa) (w : World)  (hn : nameB x.host = false) : Calls Try.prog 36 #[x.val] w fun e w' => e = ans x.S x.E ∧ Below w.heap.size w w' := by
  have e1 : x.ok = false := by unfold Soa.ok; rw [hn]; rfl
  have e2 : x.S = emp := by unfold Soa.S; rw [e1]; rfl
  have e3 : x.E = 400 := by unfold Soa.E; rw [e1]; rfl
  unfold ans
  rw [e2, e3]
  clear e1 e2 e3
  unfold Soa.val
  go_enter Try.func36, Try.ntmps36
  go_wp2_with fail
  refine (rmay x.host _).mono ?_
  rintro e w1 ⟨rfl, hb1⟩
  rw [hn]
  have c0 : w1.cell? ⟨w.heap.size, 0, none⟩ = some (.string x.host) := bcell hb1 (by go_simp)
  have c1 : w1.cell? ⟨w.heap.size, 1, none⟩ = some (.string x.mail) := bcell hb1 (by go_simp)
  have c2 : w1.cell? ⟨w.heap.size, 2, none⟩ = some (.int .i64 x.s0) := bcell hb1 (by go_simp)
  have c3 : w1.cell? ⟨w.heap.size, 3, none⟩ = some (.int .i64 x.s1) := bcell hb1 (by go_simp)
  have c4 : w1.cell? ⟨w.heap.size, 4, none⟩ = some (.int .i64 x.s2) := bcell hb1 (by go_simp)
  have c5 : w1.cell? ⟨w.heap.size, 5, none⟩ = some (.int .i64 x.s3) := bcell hb1 (by go_simp)
  have c6 : w1.cell? ⟨w.heap.size, 6, none⟩ = some (.int .i64 x.s4) := bcell hb1 (by go_simp)
  have B1 := below_next (below_alloc (Below.refl w.heap.size w) _) hb1
  go_wp2
  go_ret2
  exact ⟨rfl, B1⟩

set_option maxRecDepth 100000 in
set_option maxHeartbeats 2000000 in
theorem rsoaNo1 (x : Soa) (w : World) (hn : nameB x.host = true) (hm : nameB x.mail = false) : Calls Try.prog 36 #[x.val] w fun e w' => e = ans x.S x.E ∧ Below w.heap.size w w' := by
  have e1 : x.ok = false := by unfold Soa.ok; rw [hn, hm]; rfl
  have e2 : x.S = emp := by unfold Soa.S; rw [e1]; rfl
  have e3 : x.E = 400 := by unfold Soa.E; rw [e1]; rfl
  unfold ans
  rw [e2, e3]
  clear e1 e2 e3
  unfold Soa.val
  go_enter Try.func36, Try.ntmps36
  go_wp2_with fail
  refine (rmay x.host _).mono ?_
  rintro e w1 ⟨rfl, hb1⟩
  rw [hn]
  have c0 : w1.cell? ⟨w.heap.size, 0, none⟩ = some (.string x.host) := bcell hb1 (by go_simp)
  have c1 : w1.cell? ⟨w.heap.size, 1, none⟩ = some (.string x.mail) := bcell hb1 (by go_simp)
  have c2 : w1.cell? ⟨w.heap.size, 2, none⟩ = some (.int .i64 x.s0) := bcell hb1 (by go_simp)
  have c3 : w1.cell? ⟨w.heap.size, 3, none⟩ = some (.int .i64 x.s1) := bcell hb1 (by go_simp)
  have c4 : w1.cell? ⟨w.heap.size, 4, none⟩ = some (.int .i64 x.s2) := bcell hb1 (by go_simp)
  have c5 : w1.cell? ⟨w.heap.size, 5, none⟩ = some (.int .i64 x.s3) := bcell hb1 (by go_simp)
  have c6 : w1.cell? ⟨w.heap.size, 6, none⟩ = some (.int .i64 x.s4) := bcell hb1 (by go_simp)
  have B1 := below_next (below_alloc (Below.refl w.heap.size w) _) hb1
  go_wp2_with fail
  refine (rmay x.mail _).mono ?_
  rintro e w2 ⟨rfl, hb2⟩
  rw [hm]
  replace c0 := bcell hb2 c0
  replace c1 := bcell hb2 c1
  replace c2 := bcell hb2 c2
  replace c3 := bcell hb2 c3
  replace c4 := bcell hb2 c4
  replace c5 := bcell hb2 c5
  replace c6 := bcell hb2 c6
  have B2 := below_next B1 hb2
  go_wp2
  go_ret2
  exact ⟨rfl, B2⟩

set_option maxRecDepth 100000 in
set_option maxHeartbeats 2000000 in
theorem rsoaNo2 (x : Soa) (w : World) (hn : nameB x.host = true) (hm : nameB x.mail = true) (g0 : wideB x.s0 = false) : Calls Try.prog 36 #[x.val] w fun e w' => e = ans x.S x.E ∧ Below w.heap.size w w' := by
  have e1 : x.ok = false := by unfold Soa.ok; rw [hn, hm, g0]; rfl
  have e2 : x.S = emp := by unfold Soa.S; rw [e1]; rfl
  have e3 : x.E = 400 := by unfold Soa.E; rw [e1]; rfl
  unfold ans
  rw [e2, e3]
  clear e1 e2 e3
  unfold Soa.val
  go_enter Try.func36, Try.ntmps36
  go_wp2_with fail
  refine (rmay x.host _).mono ?_
  rintro e w1 ⟨rfl, hb1⟩
  rw [hn]
  have c0 : w1.cell? ⟨w.heap.size, 0, none⟩ = some (.string x.host) := bcell hb1 (by go_simp)
  have c1 : w1.cell? ⟨w.heap.size, 1, none⟩ = some (.string x.mail) := bcell hb1 (by go_simp)
  have c2 : w1.cell? ⟨w.heap.size, 2, none⟩ = some (.int .i64 x.s0) := bcell hb1 (by go_simp)
  have c3 : w1.cell? ⟨w.heap.size, 3, none⟩ = some (.int .i64 x.s1) := bcell hb1 (by go_simp)
  have c4 : w1.cell? ⟨w.heap.size, 4, none⟩ = some (.int .i64 x.s2) := bcell hb1 (by go_simp)
  have c5 : w1.cell? ⟨w.heap.size, 5, none⟩ = some (.int .i64 x.s3) := bcell hb1 (by go_simp)
  have c6 : w1.cell? ⟨w.heap.size, 6, none⟩ = some (.int .i64 x.s4) := bcell hb1 (by go_simp)
  have B1 := below_next (below_alloc (Below.refl w.heap.size w) _) hb1
  go_wp2_with fail
  refine (rmay x.mail _).mono ?_
  rintro e w2 ⟨rfl, hb2⟩
  rw [hm]
  replace c0 := bcell hb2 c0
  replace c1 := bcell hb2 c1
  replace c2 := bcell hb2 c2
  replace c3 := bcell hb2 c3
  replace c4 := bcell hb2 c4
  replace c5 := bcell hb2 c5
  replace c6 := bcell hb2 c6
  have B2 := below_next B1 hb2
  go_wp2_with fail
  refine (rwide x.s0 _).mono ?_
  rintro e w3 ⟨rfl, hb3⟩
  rw [g0]
  replace c0 := bcell hb3 c0
  replace c1 := bcell hb3 c1
  replace c2 := bcell hb3 c2
  replace c3 := bcell hb3 c3
  replace c4 := bcell hb3 c4
  replace c5 := bcell hb3 c5
  replace c6 := bcell hb3 c6
  have B3 := below_next B2 hb3
  go_wp2
  go_ret2
  exact ⟨rfl, B3⟩

set_option maxRecDepth 100000 in
set_option maxHeartbeats 2000000 in
theorem rsoaNo3 (x : Soa) (w : World) (hn : nameB x.host = true) (hm : nameB x.mail = true) (g0 : wideB x.s0 = true) (g1 : wideB x.s1 = false) : Calls Try.prog 36 #[x.val] w fun e w' => e = ans x.S x.E ∧ Below w.heap.size w w' := by
  have e1 : x.ok = false := by unfold Soa.ok; rw [hn, hm, g0, g1]; rfl
  have e2 : x.S = emp := by unfold Soa.S; rw [e1]; rfl
  have e3 : x.E = 400 := by unfold Soa.E; rw [e1]; rfl
  unfold ans
  rw [e2, e3]
  clear e1 e2 e3
  unfold Soa.val
  go_enter Try.func36, Try.ntmps36
  go_wp2_with fail
  refine (rmay x.host _).mono ?_
  rintro e w1 ⟨rfl, hb1⟩
  rw [hn]
  have c0 : w1.cell? ⟨w.heap.size, 0, none⟩ = some (.string x.host) := bcell hb1 (by go_simp)
  have c1 : w1.cell? ⟨w.heap.size, 1, none⟩ = some (.string x.mail) := bcell hb1 (by go_simp)
  have c2 : w1.cell? ⟨w.heap.size, 2, none⟩ = some (.int .i64 x.s0) := bcell hb1 (by go_simp)
  have c3 : w1.cell? ⟨w.heap.size, 3, none⟩ = some (.int .i64 x.s1) := bcell hb1 (by go_simp)
  have c4 : w1.cell? ⟨w.heap.size, 4, none⟩ = some (.int .i64 x.s2) := bcell hb1 (by go_simp)
  have c5 : w1.cell? ⟨w.heap.size, 5, none⟩ = some (.int .i64 x.s3) := bcell hb1 (by go_simp)
  have c6 : w1.cell? ⟨w.heap.size, 6, none⟩ = some (.int .i64 x.s4) := bcell hb1 (by go_simp)
  have B1 := below_next (below_alloc (Below.refl w.heap.size w) _) hb1
  go_wp2_with fail
  refine (rmay x.mail _).mono ?_
  rintro e w2 ⟨rfl, hb2⟩
  rw [hm]
  replace c0 := bcell hb2 c0
  replace c1 := bcell hb2 c1
  replace c2 := bcell hb2 c2
  replace c3 := bcell hb2 c3
  replace c4 := bcell hb2 c4
  replace c5 := bcell hb2 c5
  replace c6 := bcell hb2 c6
  have B2 := below_next B1 hb2
  go_wp2_with fail
  refine (rwide x.s0 _).mono ?_
  rintro e w3 ⟨rfl, hb3⟩
  rw [g0]
  replace c0 := bcell hb3 c0
  replace c1 := bcell hb3 c1
  replace c2 := bcell hb3 c2
  replace c3 := bcell hb3 c3
  replace c4 := bcell hb3 c4
  replace c5 := bcell hb3 c5
  replace c6 := bcell hb3 c6
  have B3 := below_next B2 hb3
  go_wp2_with fail
  refine (rwide x.s1 _).mono ?_
  rintro e w4 ⟨rfl, hb4⟩
  rw [g1]
  replace c0 := bcell hb4 c0
  replace c1 := bcell hb4 c1
  replace c2 := bcell hb4 c2
  replace c3 := bcell hb4 c3
  replace c4 := bcell hb4 c4
  replace c5 := bcell hb4 c5
  replace c6 := bcell hb4 c6
  have B4 := below_next B3 hb4
  go_wp2
  go_ret2
  exact ⟨rfl, B4⟩

set_option maxRecDepth 100000 in
set_option maxHeartbeats 2000000 in
theorem rsoaNo4 (x : Soa) (w : World) (hn : nameB x.host = true) (hm : nameB x.mail = true) (g0 : wideB x.s0 = true) (g1 : wideB x.s1 = true) (g2 : wideB x.s2 = false) : Calls Try.prog 36 #[x.val] w fun e w' => e = ans x.S x.E ∧ Below w.heap.size w w' := by
  have e1 : x.ok = false := by unfold Soa.ok; rw [hn, hm, g0, g1, g2]; rfl
  have e2 : x.S = emp := by unfold Soa.S; rw [e1]; rfl
  have e3 : x.E = 400 := by unfold Soa.E; rw [e1]; rfl
  unfold ans
  rw [e2, e3]
  clear e1 e2 e3
  unfold Soa.val
  go_enter Try.func36, Try.ntmps36
  go_wp2_with fail
  refine (rmay x.host _).mono ?_
  rintro e w1 ⟨rfl, hb1⟩
  rw [hn]
  have c0 : w1.cell? ⟨w.heap.size, 0, none⟩ = some (.string x.host) := bcell hb1 (by go_simp)
  have c1 : w1.cell? ⟨w.heap.size, 1, none⟩ = some (.string x.mail) := bcell hb1 (by go_simp)
  have c2 : w1.cell? ⟨w.heap.size, 2, none⟩ = some (.int .i64 x.s0) := bcell hb1 (by go_simp)
  have c3 : w1.cell? ⟨w.heap.size, 3, none⟩ = some (.int .i64 x.s1) := bcell hb1 (by go_simp)
  have c4 : w1.cell? ⟨w.heap.size, 4, none⟩ = some (.int .i64 x.s2) := bcell hb1 (by go_simp)
  have c5 : w1.cell? ⟨w.heap.size, 5, none⟩ = some (.int .i64 x.s3) := bcell hb1 (by go_simp)
  have c6 : w1.cell? ⟨w.heap.size, 6, none⟩ = some (.int .i64 x.s4) := bcell hb1 (by go_simp)
  have B1 := below_next (below_alloc (Below.refl w.heap.size w) _) hb1
  go_wp2_with fail
  refine (rmay x.mail _).mono ?_
  rintro e w2 ⟨rfl, hb2⟩
  rw [hm]
  replace c0 := bcell hb2 c0
  replace c1 := bcell hb2 c1
  replace c2 := bcell hb2 c2
  replace c3 := bcell hb2 c3
  replace c4 := bcell hb2 c4
  replace c5 := bcell hb2 c5
  replace c6 := bcell hb2 c6
  have B2 := below_next B1 hb2
  go_wp2_with fail
  refine (rwide x.s0 _).mono ?_
  rintro e w3 ⟨rfl, hb3⟩
  rw [g0]
  replace c0 := bcell hb3 c0
  replace c1 := bcell hb3 c1
  replace c2 := bcell hb3 c2
  replace c3 := bcell hb3 c3
  replace c4 := bcell hb3 c4
  replace c5 := bcell hb3 c5
  replace c6 := bcell hb3 c6
  have B3 := below_next B2 hb3
  go_wp2_with fail
  refine (rwide x.s1 _).mono ?_
  rintro e w4 ⟨rfl, hb4⟩
  rw [g1]
  replace c0 := bcell hb4 c0
  replace c1 := bcell hb4 c1
  replace c2 := bcell hb4 c2
  replace c3 := bcell hb4 c3
  replace c4 := bcell hb4 c4
  replace c5 := bcell hb4 c5
  replace c6 := bcell hb4 c6
  have B4 := below_next B3 hb4
  go_wp2_with fail
  refine (rwide x.s2 _).mono ?_
  rintro e w5 ⟨rfl, hb5⟩
  rw [g2]
  replace c0 := bcell hb5 c0
  replace c1 := bcell hb5 c1
  replace c2 := bcell hb5 c2
  replace c3 := bcell hb5 c3
  replace c4 := bcell hb5 c4
  replace c5 := bcell hb5 c5
  replace c6 := bcell hb5 c6
  have B5 := below_next B4 hb5
  go_wp2
  go_ret2
  exact ⟨rfl, B5⟩

set_option maxRecDepth 100000 in
set_option maxHeartbeats 2000000 in
theorem rsoaNo5 (x : Soa) (w : World) (hn : nameB x.host = true) (hm : nameB x.mail = true) (g0 : wideB x.s0 = true) (g1 : wideB x.s1 = true) (g2 : wideB x.s2 = true) (g3 : wideB x.s3 = false) : Calls Try.prog 36 #[x.val] w fun e w' => e = ans x.S x.E ∧ Below w.heap.size w w' := by
  have e1 : x.ok = false := by unfold Soa.ok; rw [hn, hm, g0, g1, g2, g3]; rfl
  have e2 : x.S = emp := by unfold Soa.S; rw [e1]; rfl
  have e3 : x.E = 400 := by unfold Soa.E; rw [e1]; rfl
  unfold ans
  rw [e2, e3]
  clear e1 e2 e3
  unfold Soa.val
  go_enter Try.func36, Try.ntmps36
  go_wp2_with fail
  refine (rmay x.host _).mono ?_
  rintro e w1 ⟨rfl, hb1⟩
  rw [hn]
  have c0 : w1.cell? ⟨w.heap.size, 0, none⟩ = some (.string x.host) := bcell hb1 (by go_simp)
  have c1 : w1.cell? ⟨w.heap.size, 1, none⟩ = some (.string x.mail) := bcell hb1 (by go_simp)
  have c2 : w1.cell? ⟨w.heap.size, 2, none⟩ = some (.int .i64 x.s0) := bcell hb1 (by go_simp)
  have c3 : w1.cell? ⟨w.heap.size, 3, none⟩ = some (.int .i64 x.s1) := bcell hb1 (by go_simp)
  have c4 : w1.cell? ⟨w.heap.size, 4, none⟩ = some (.int .i64 x.s2) := bcell hb1 (by go_simp)
  have c5 : w1.cell? ⟨w.heap.size, 5, none⟩ = some (.int .i64 x.s3) := bcell hb1 (by go_simp)
  have c6 : w1.cell? ⟨w.heap.size, 6, none⟩ = some (.int .i64 x.s4) := bcell hb1 (by go_simp)
  have B1 := below_next (below_alloc (Below.refl w.heap.size w) _) hb1
  go_wp2_with fail
  refine (rmay x.mail _).mono ?_
  rintro e w2 ⟨rfl, hb2⟩
  rw [hm]
  replace c0 := bcell hb2 c0
  replace c1 := bcell hb2 c1
  replace c2 := bcell hb2 c2
  replace c3 := bcell hb2 c3
  replace c4 := bcell hb2 c4
  replace c5 := bcell hb2 c5
  replace c6 := bcell hb2 c6
  have B2 := below_next B1 hb2
  go_wp2_with fail
  refine (rwide x.s0 _).mono ?_
  rintro e w3 ⟨rfl, hb3⟩
  rw [g0]
  replace c0 := bcell hb3 c0
  replace c1 := bcell hb3 c1
  replace c2 := bcell hb3 c2
  replace c3 := bcell hb3 c3
  replace c4 := bcell hb3 c4
  replace c5 := bcell hb3 c5
  replace c6 := bcell hb3 c6
  have B3 := below_next B2 hb3
  go_wp2_with fail
  refine (rwide x.s1 _).mono ?_
  rintro e w4 ⟨rfl, hb4⟩
  rw [g1]
  replace c0 := bcell hb4 c0
  replace c1 := bcell hb4 c1
  replace c2 := bcell hb4 c2
  replace c3 := bcell hb4 c3
  replace c4 := bcell hb4 c4
  replace c5 := bcell hb4 c5
  replace c6 := bcell hb4 c6
  have B4 := below_next B3 hb4
  go_wp2_with fail
  refine (rwide x.s2 _).mono ?_
  rintro e w5 ⟨rfl, hb5⟩
  rw [g2]
  replace c0 := bcell hb5 c0
  replace c1 := bcell hb5 c1
  replace c2 := bcell hb5 c2
  replace c3 := bcell hb5 c3
  replace c4 := bcell hb5 c4
  replace c5 := bcell hb5 c5
  replace c6 := bcell hb5 c6
  have B5 := below_next B4 hb5
  go_wp2_with fail
  refine (rwide x.s3 _).mono ?_
  rintro e w6 ⟨rfl, hb6⟩
  rw [g3]
  replace c0 := bcell hb6 c0
  replace c1 := bcell hb6 c1
  replace c2 := bcell hb6 c2
  replace c3 := bcell hb6 c3
  replace c4 := bcell hb6 c4
  replace c5 := bcell hb6 c5
  replace c6 := bcell hb6 c6
  have B6 := below_next B5 hb6
  go_wp2
  go_ret2
  exact ⟨rfl, B6⟩

set_option maxRecDepth 100000 in
set_option maxHeartbeats 2000000 in
theorem rsoaNo6 (x : Soa) (w : World) (hn : nameB x.host = true) (hm : nameB x.mail = true) (g0 : wideB x.s0 = true) (g1 : wideB x.s1 = true) (g2 : wideB x.s2 = true) (g3 : wideB x.s3 = true) (g4 : wideB x.s4 = false) : Calls Try.prog 36 #[x.val] w fun e w' => e = ans x.S x.E ∧ Below w.heap.size w w' := by
  have e1 : x.ok = false := by unfold Soa.ok; rw [hn, hm, g0, g1, g2, g3, g4]; rfl
  have e2 : x.S = emp := by unfold Soa.S; rw [e1]; rfl
  have e3 : x.E = 400 := by unfold Soa.E; rw [e1]; rfl
  unfold ans
  rw [e2, e3]
  clear e1 e2 e3
  unfold Soa.val
  go_enter Try.func36, Try.ntmps36
  go_wp2_with fail
  refine (rmay x.host _).mono ?_
  rintro e w1 ⟨rfl, hb1⟩
  rw [hn]
  have c0 : w1.cell? ⟨w.heap.size, 0, none⟩ = some (.string x.host) := bcell hb1 (by go_simp)
  have c1 : w1.cell? ⟨w.heap.size, 1, none⟩ = some (.string x.mail) := bcell hb1 (by go_simp)
  have c2 : w1.cell? ⟨w.heap.size, 2, none⟩ = some (.int .i64 x.s0) := bcell hb1 (by go_simp)
  have c3 : w1.cell? ⟨w.heap.size, 3, none⟩ = some (.int .i64 x.s1) := bcell hb1 (by go_simp)
  have c4 : w1.cell? ⟨w.heap.size, 4, none⟩ = some (.int .i64 x.s2) := bcell hb1 (by go_simp)
  have c5 : w1.cell? ⟨w.heap.size, 5, none⟩ = some (.int .i64 x.s3) := bcell hb1 (by go_simp)
  have c6 : w1.cell? ⟨w.heap.size, 6, none⟩ = some (.int .i64 x.s4) := bcell hb1 (by go_simp)
  have B1 := below_next (below_alloc (Below.refl w.heap.size w) _) hb1
  go_wp2_with fail
  refine (rmay x.mail _).mono ?_
  rintro e w2 ⟨rfl, hb2⟩
  rw [hm]
  replace c0 := bcell hb2 c0
  replace c1 := bcell hb2 c1
  replace c2 := bcell hb2 c2
  replace c3 := bcell hb2 c3
  replace c4 := bcell hb2 c4
  replace c5 := bcell hb2 c5
  replace c6 := bcell hb2 c6
  have B2 := below_next B1 hb2
  go_wp2_with fail
  refine (rwide x.s0 _).mono ?_
  rintro e w3 ⟨rfl, hb3⟩
  rw [g0]
  replace c0 := bcell hb3 c0
  replace c1 := bcell hb3 c1
  replace c2 := bcell hb3 c2
  replace c3 := bcell hb3 c3
  replace c4 := bcell hb3 c4
  replace c5 := bcell hb3 c5
  replace c6 := bcell hb3 c6
  have B3 := below_next B2 hb3
  go_wp2_with fail
  refine (rwide x.s1 _).mono ?_
  rintro e w4 ⟨rfl, hb4⟩
  rw [g1]
  replace c0 := bcell hb4 c0
  replace c1 := bcell hb4 c1
  replace c2 := bcell hb4 c2
  replace c3 := bcell hb4 c3
  replace c4 := bcell hb4 c4
  replace c5 := bcell hb4 c5
  replace c6 := bcell hb4 c6
  have B4 := below_next B3 hb4
  go_wp2_with fail
  refine (rwide x.s2 _).mono ?_
  rintro e w5 ⟨rfl, hb5⟩
  rw [g2]
  replace c0 := bcell hb5 c0
  replace c1 := bcell hb5 c1
  replace c2 := bcell hb5 c2
  replace c3 := bcell hb5 c3
  replace c4 := bcell hb5 c4
  replace c5 := bcell hb5 c5
  replace c6 := bcell hb5 c6
  have B5 := below_next B4 hb5
  go_wp2_with fail
  refine (rwide x.s3 _).mono ?_
  rintro e w6 ⟨rfl, hb6⟩
  rw [g3]
  replace c0 := bcell hb6 c0
  replace c1 := bcell hb6 c1
  replace c2 := bcell hb6 c2
  replace c3 := bcell hb6 c3
  replace c4 := bcell hb6 c4
  replace c5 := bcell hb6 c5
  replace c6 := bcell hb6 c6
  have B6 := below_next B5 hb6
  go_wp2_with fail
  refine (rwide x.s4 _).mono ?_
  rintro e w7 ⟨rfl, hb7⟩
  rw [g4]
  replace c0 := bcell hb7 c0
  replace c1 := bcell hb7 c1
  replace c2 := bcell hb7 c2
  replace c3 := bcell hb7 c3
  replace c4 := bcell hb7 c4
  replace c5 := bcell hb7 c5
  replace c6 := bcell hb7 c6
  have B7 := below_next B6 hb7
  go_wp2
  go_ret2
  exact ⟨rfl, B7⟩

set_option maxRecDepth 100000 in
set_option maxHeartbeats 2000000 in
theorem rsoaYes (x : Soa) (w : World) (hn : nameB x.host = true) (hm : nameB x.mail = true) (g0 : wideB x.s0 = true) (g1 : wideB x.s1 = true) (g2 : wideB x.s2 = true) (g3 : wideB x.s3 = true) (g4 : wideB x.s4 = true) : Calls Try.prog 36 #[x.val] w fun e w' => e = ans x.S x.E ∧ Below w.heap.size w w' := by
  have e1 : x.ok = true := by unfold Soa.ok; rw [hn, hm, g0, g1, g2, g3, g4]; rfl
  have e2 : x.S = x.out := by unfold Soa.S; rw [e1]; rfl
  have e3 : x.E = 0 := by unfold Soa.E; rw [e1]; rfl
  unfold ans
  rw [e2, e3]
  have hz := nameB_size hn
  have hy := nameB_size hm
  have l0 : ¬ 9223372036854775807 < (x.host).size + x.mail.size := by (try simp only [ByteArray.size_append, p32_size]); omega
  have l1 : ¬ 9223372036854775807 < (x.host ++ x.mail).size + (p32 x.s0).size := by (try simp only [ByteArray.size_append, p32_size]); omega
  have l2 : ¬ 9223372036854775807 < (x.host ++ x.mail ++ (p32 x.s0)).size + (p32 x.s1).size := by (try simp only [ByteArray.size_append, p32_size]); omega
  have l3 : ¬ 9223372036854775807 < (x.host ++ x.mail ++ (p32 x.s0) ++ (p32 x.s1)).size + (p32 x.s2).size := by (try simp only [ByteArray.size_append, p32_size]); omega
  have l4 : ¬ 9223372036854775807 < (x.host ++ x.mail ++ (p32 x.s0) ++ (p32 x.s1) ++ (p32 x.s2)).size + (p32 x.s3).size := by (try simp only [ByteArray.size_append, p32_size]); omega
  have l5 : ¬ 9223372036854775807 < (x.host ++ x.mail ++ (p32 x.s0) ++ (p32 x.s1) ++ (p32 x.s2) ++ (p32 x.s3)).size + (p32 x.s4).size := by (try simp only [ByteArray.size_append, p32_size]); omega
  clear hz hy
  clear e1 e2 e3
  unfold Soa.val
  go_enter Try.func36, Try.ntmps36
  go_wp2_with fail
  refine (rmay x.host _).mono ?_
  rintro e w1 ⟨rfl, hb1⟩
  rw [hn]
  have c0 : w1.cell? ⟨w.heap.size, 0, none⟩ = some (.string x.host) := bcell hb1 (by go_simp)
  have c1 : w1.cell? ⟨w.heap.size, 1, none⟩ = some (.string x.mail) := bcell hb1 (by go_simp)
  have c2 : w1.cell? ⟨w.heap.size, 2, none⟩ = some (.int .i64 x.s0) := bcell hb1 (by go_simp)
  have c3 : w1.cell? ⟨w.heap.size, 3, none⟩ = some (.int .i64 x.s1) := bcell hb1 (by go_simp)
  have c4 : w1.cell? ⟨w.heap.size, 4, none⟩ = some (.int .i64 x.s2) := bcell hb1 (by go_simp)
  have c5 : w1.cell? ⟨w.heap.size, 5, none⟩ = some (.int .i64 x.s3) := bcell hb1 (by go_simp)
  have c6 : w1.cell? ⟨w.heap.size, 6, none⟩ = some (.int .i64 x.s4) := bcell hb1 (by go_simp)
  have B1 := below_next (below_alloc (Below.refl w.heap.size w) _) hb1
  go_wp2_with fail
  refine (rmay x.mail _).mono ?_
  rintro e w2 ⟨rfl, hb2⟩
  rw [hm]
  replace c0 := bcell hb2 c0
  replace c1 := bcell hb2 c1
  replace c2 := bcell hb2 c2
  replace c3 := bcell hb2 c3
  replace c4 := bcell hb2 c4
  replace c5 := bcell hb2 c5
  replace c6 := bcell hb2 c6
  have B2 := below_next B1 hb2
  go_wp2_with fail
  refine (rwide x.s0 _).mono ?_
  rintro e w3 ⟨rfl, hb3⟩
  rw [g0]
  replace c0 := bcell hb3 c0
  replace c1 := bcell hb3 c1
  replace c2 := bcell hb3 c2
  replace c3 := bcell hb3 c3
  replace c4 := bcell hb3 c4
  replace c5 := bcell hb3 c5
  replace c6 := bcell hb3 c6
  have B3 := below_next B2 hb3
  go_wp2_with fail
  refine (rwide x.s1 _).mono ?_
  rintro e w4 ⟨rfl, hb4⟩
  rw [g1]
  replace c0 := bcell hb4 c0
  replace c1 := bcell hb4 c1
  replace c2 := bcell hb4 c2
  replace c3 := bcell hb4 c3
  replace c4 := bcell hb4 c4
  replace c5 := bcell hb4 c5
  replace c6 := bcell hb4 c6
  have B4 := below_next B3 hb4
  go_wp2_with fail
  refine (rwide x.s2 _).mono ?_
  rintro e w5 ⟨rfl, hb5⟩
  rw [g2]
  replace c0 := bcell hb5 c0
  replace c1 := bcell hb5 c1
  replace c2 := bcell hb5 c2
  replace c3 := bcell hb5 c3
  replace c4 := bcell hb5 c4
  replace c5 := bcell hb5 c5
  replace c6 := bcell hb5 c6
  have B5 := below_next B4 hb5
  go_wp2_with fail
  refine (rwide x.s3 _).mono ?_
  rintro e w6 ⟨rfl, hb6⟩
  rw [g3]
  replace c0 := bcell hb6 c0
  replace c1 := bcell hb6 c1
  replace c2 := bcell hb6 c2
  replace c3 := bcell hb6 c3
  replace c4 := bcell hb6 c4
  replace c5 := bcell hb6 c5
  replace c6 := bcell hb6 c6
  have B6 := below_next B5 hb6
  go_wp2_with fail
  refine (rwide x.s4 _).mono ?_
  rintro e w7 ⟨rfl, hb7⟩
  rw [g4]
  replace c0 := bcell hb7 c0
  replace c1 := bcell hb7 c1
  replace c2 := bcell hb7 c2
  replace c3 := bcell hb7 c3
  replace c4 := bcell hb7 c4
  replace c5 := bcell hb7 c5
  replace c6 := bcell hb7 c6
  have B7 := below_next B6 hb7
  go_wp2
  have r0 := cell_regrown c0
  have r1 := cell_regrown c1
  have r2 := cell_regrown c2
  have r3 := cell_regrown c3
  have r4 := cell_regrown c4
  have r5 := cell_regrown c5
  have r6 := cell_regrown c6
  refine wp_region_quiet_below (by kernel_rfl) (by kernel_rfl) ?_
  repeat (go_big_quiet_step (exact Calls.regrown_of (rbe4 _ _)))
  refine wpQuiet_nil ?_
  intro _ hw'
  obtain ⟨⟨dq, osq⟩, hw''⟩ := hw'
  subst hw''
  have hb8 := below_regrown w7 dq osq
  generalize Go.Sort.grow (redrawn w7 dq) osq = w8 at hb8 ⊢
  have B8 := below_next B7 hb8
  go_wp2
  go_ret2
  exact ⟨rfl, B8⟩

theorem rsoac (x : Soa) (w : World) : Calls Try.prog 36 #[x.val] w fun e w' => e = ans x.S x.E ∧ Below w.heap.size w w' := by
  cases hn : nameB x.host with
  | false => exact rsoaNo0 x w hn
  | true =>
  cases hm : nameB x.mail with
  | false => exact rsoaNo1 x w hn hm
  | true =>
  cases g0 : wideB x.s0 with
  | false => exact rsoaNo2 x w hn hm g0
  | true =>
  cases g1 : wideB x.s1 with
  | false => exact rsoaNo3 x w hn hm g0 g1
  | true =>
  cases g2 : wideB x.s2 with
  | false => exact rsoaNo4 x w hn hm g0 g1 g2
  | true =>
  cases g3 : wideB x.s3 with
  | false => exact rsoaNo5 x w hn hm g0 g1 g2 g3
  | true =>
  cases g4 : wideB x.s4 with
  | false => exact rsoaNo6 x w hn hm g0 g1 g2 g3 g4
  | true =>
  exact rsoaYes x w hn hm g0 g1 g2 g3 g4 
end Go.Proofs.Ytndcjleadggibaa.Rd

namespace Go.Proofs.Ytndcjleadggibaa.Rd
open Go.RowKit Go.PlainAid Go.Proofs.Ytndcjleadggibaa.Base Go.Proofs.Ytndcjleadggibaa.Oct Go.Proofs.Ytndcjleadggibaa.Sl Go.Proofs.Ytndcjleadggibaa.Nm
set_option linter.unusedVariables false

def soa0 : Soa := ⟨emp, emp, 0, 0, 0, 0, 0⟩
/-- Where the two names end. -/
def eA (s : ByteArray) : Nat := (endN s 0).toNat
def eB (s : ByteArray) : Nat := (endN s (eA s)).toNat
def soaOf (s : ByteArray) : Soa := ⟨s.extract 0 (eA s), s.extract (eA s) (eB s), be4 s (eB s), be4 s (eB s + 4), be4 s (eB s + 8), be4 s (eB s + 12), be4 s (eB s + 16)⟩
def unX (s : ByteArray) : Soa := if mayD 6 s then soaOf s else soa0
def unE (s : ByteArray) : Int := if mayD 6 s then 0 else 400
theorem may6 {s : ByteArray} (h : mayD 6 s = true) : endN s 0 = eA s ∧ endN s (eA s) = eB s ∧ s.size = eB s + 20 ∧ eA s ≤ eB s ∧ s.size ≤ 65535 := by
  by_cases h3 : 65535 < s.size
  · unfold mayD at h; rw [if_neg (by decide), if_neg (by decide), if_pos h3] at h; cases h
  · rw [mayD_body (by decide) (by decide) h3] at h
    simp [soaB] at h
    obtain ⟨h0, h1, h2⟩ := h
    have := @endN_bd s _ h1
    unfold eB eA
    omega

theorem bfroz {w w1 : World} (h : Below w.heap.size w w1) {a : Addr} {v : Value} (hc : w.cell? a = some v) (hf : w.frozen? a = false) : w1.frozen? a = false := (h.frozen (World.block_lt_of_cell? w a hc)).trans hf

theorem below_set {B b k : Nat} {w W : World} {u : Value} (h : Below B w W) (hb : B ≤ b) : Below B w (W.setCell ⟨b, k, none⟩ u) := h.setCell (p := ⟨b, k, none⟩) hb u

theorem u32e (s : ByteArray) (i : Nat) (j : Int) (hj : j = i) (w : World) (hs : s.size ≤ 9223372036854775000) (h : i + 4 ≤ s.size) : Calls Try.prog 56 #[.string s, .int .i64 j] w fun e w' => e = .returned (.tuple #[.int .i64 (be4 s i), .int .i64 ((i + 4 : Nat) : Int), .int .i64 0]) ∧ w = w' := by
  subst hj
  have := u32 s i w hs h
  simpa using this

set_option maxRecDepth 100000 in
set_option maxHeartbeats 4000000 in
theorem unsoaNo (s : ByteArray) (w : World) (hs : s.size ≤ 9223372036854775000) (h : mayD 6 s = false) : Calls Try.prog 37 #[.string s] w fun e w' => e = .returned (.tuple #[soa0.val, .int .i64 400]) ∧ Below w.heap.size w w' := by
  go_enter Try.func37, Try.ntmps37
  go_wp2_with fail
  refine (dmay 6 s _ hs).mono ?_
  rintro e w1 ⟨rfl, hb1⟩
  rw [h]
  have c0 : w1.cell? ⟨w.heap.size, 0, none⟩ = some (.string ⟨#[]⟩) := bcell hb1 (by go_simp)
  have cf0 : w1.frozen? ⟨w.heap.size, 0, none⟩ = false := bfroz (v := .string ⟨#[]⟩) hb1 (by go_simp) (by go_simp)
  have c1 : w1.cell? ⟨w.heap.size, 1, none⟩ = some (.string ⟨#[]⟩) := bcell hb1 (by go_simp)
  have cf1 : w1.frozen? ⟨w.heap.size, 1, none⟩ = false := bfroz (v := .string ⟨#[]⟩) hb1 (by go_simp) (by go_simp)
  have c2 : w1.cell? ⟨w.heap.size, 2, none⟩ = some (.int .i64 0) := bcell hb1 (by go_simp)
  have cf2 : w1.frozen? ⟨w.heap.size, 2, none⟩ = false := bfroz (v := .int .i64 0) hb1 (by go_simp) (by go_simp)
  have c3 : w1.cell? ⟨w.heap.size, 3, none⟩ = some (.int .i64 0) := bcell hb1 (by go_simp)
  have cf3 : w1.frozen? ⟨w.heap.size, 3, none⟩ = false := bfroz (v := .int .i64 0) hb1 (by go_simp) (by go_simp)
  have c4 : w1.cell? ⟨w.heap.size, 4, none⟩ = some (.int .i64 0) := bcell hb1 (by go_simp)
  have cf4 : w1.frozen? ⟨w.heap.size, 4, none⟩ = false := bfroz (v := .int .i64 0) hb1 (by go_simp) (by go_simp)
  have c5 : w1.cell? ⟨w.heap.size, 5, none⟩ = some (.int .i64 0) := bcell hb1 (by go_simp)
  have cf5 : w1.frozen? ⟨w.heap.size, 5, none⟩ = false := bfroz (v := .int .i64 0) hb1 (by go_simp) (by go_simp)
  have c6 : w1.cell? ⟨w.heap.size, 6, none⟩ = some (.int .i64 0) := bcell hb1 (by go_simp)
  have cf6 : w1.frozen? ⟨w.heap.size, 6, none⟩ = false := bfroz (v := .int .i64 0) hb1 (by go_simp) (by go_simp)
  have B1 := below_next (below_alloc (Below.refl w.heap.size w) _) hb1
  go_wp2
  exact bodyPost_ret (v := .tuple #[soa0.val, .int .i64 400]) (by simp [results, Try.results37, go_sem, soa0, Soa.val, emp, c0, c1, c2, c3, c4, c5, c6]) rfl ⟨rfl, (by with_reducible repeat (first | exact B1 | refine below_set ?_ (Nat.le_refl _)))⟩

set_option maxRecDepth 100000 in
set_option maxHeartbeats 4000000 in
theorem unsoaYes (s : ByteArray) (w : World) (hs : s.size ≤ 9223372036854775000) (h : mayD 6 s = true) : Calls Try.prog 37 #[.string s] w fun e w' => e = .returned (.tuple #[(soaOf s).val, .int .i64 0]) ∧ Below w.heap.size w w' := by
  obtain ⟨hA, hB, hz, hAB, h6⟩ := may6 h
  have hsh := endN_shift s (eA s) (by omega)
  rw [if_neg (by omega), hB] at hsh
  obtain ⟨d, hd⟩ : ∃ d : Nat, (eB s : Int) - eA s = d := ⟨eB s - eA s, by omega⟩
  rw [hd] at hsh
  have hw : wrap64 ((eA s : Int) + d) = (eB s : Int) := by rw [w64 (by omega) (by omega)]; omega
  have hw2 : (eA s : Int) + d = (eB s : Int) := by omega
  have hle : eA s ≤ s.size := by omega
  have hsz : (s.extract (eA s) s.size).size ≤ 9223372036854775000 := by rw [ByteArray.size_extract]; omega
  have HZ := Lib.hid hz
  have HA := Lib.hid hAB
  have hlb : eB s ≤ s.size := by omega
  have e4 : ∀ k : Nat, k ≤ 16 → wrap64 ((eB s : Int) + k) = (eB s : Int) + k := fun k hk => w64 (by omega) (by omega)
  clear h6 hz hd
  go_enter Try.func37, Try.ntmps37
  go_wp2_with fail
  refine (dmay 6 s _ hs).mono ?_
  rintro e w1 ⟨rfl, hb1⟩
  rw [h]
  have c0 : w1.cell? ⟨w.heap.size, 0, none⟩ = some (.string ⟨#[]⟩) := bcell hb1 (by go_simp)
  have cf0 : w1.frozen? ⟨w.heap.size, 0, none⟩ = false := bfroz (v := .string ⟨#[]⟩) hb1 (by go_simp) (by go_simp)
  have c1 : w1.cell? ⟨w.heap.size, 1, none⟩ = some (.string ⟨#[]⟩) := bcell hb1 (by go_simp)
  have cf1 : w1.frozen? ⟨w.heap.size, 1, none⟩ = false := bfroz (v := .string ⟨#[]⟩) hb1 (by go_simp) (by go_simp)
  have c2 : w1.cell? ⟨w.heap.size, 2, none⟩ = some (.int .i64 0) := bcell hb1 (by go_simp)
  have cf2 : w1.frozen? ⟨w.heap.size, 2, none⟩ = false := bfroz (v := .int .i64 0) hb1 (by go_simp) (by go_simp)
  have c3 : w1.cell? ⟨w.heap.size, 3, none⟩ = some (.int .i64 0) := bcell hb1 (by go_simp)
  have cf3 : w1.frozen? ⟨w.heap.size, 3, none⟩ = false := bfroz (v := .int .i64 0) hb1 (by go_simp) (by go_simp)
  have c4 : w1.cell? ⟨w.heap.size, 4, none⟩ = some (.int .i64 0) := bcell hb1 (by go_simp)
  have cf4 : w1.frozen? ⟨w.heap.size, 4, none⟩ = false := bfroz (v := .int .i64 0) hb1 (by go_simp) (by go_simp)
  have c5 : w1.cell? ⟨w.heap.size, 5, none⟩ = some (.int .i64 0) := bcell hb1 (by go_simp)
  have cf5 : w1.frozen? ⟨w.heap.size, 5, none⟩ = false := bfroz (v := .int .i64 0) hb1 (by go_simp) (by go_simp)
  have c6 : w1.cell? ⟨w.heap.size, 6, none⟩ = some (.int .i64 0) := bcell hb1 (by go_simp)
  have cf6 : w1.frozen? ⟨w.heap.size, 6, none⟩ = false := bfroz (v := .int .i64 0) hb1 (by go_simp) (by go_simp)
  have B1 := below_next (below_alloc (Below.refl w.heap.size w) _) hb1
  have G1 : w.heap.size < w1.heap.size := World.block_lt_of_cell? w1 _ c0
  go_wp2_with fail
  refine (ends s _ hs).mono ?_
  rintro e w2 ⟨rfl, hb2⟩
  rw [hA]
  replace cf0 := bfroz hb2 c0 cf0
  replace c0 := bcell hb2 c0
  replace cf1 := bfroz hb2 c1 cf1
  replace c1 := bcell hb2 c1
  replace cf2 := bfroz hb2 c2 cf2
  replace c2 := bcell hb2 c2
  replace cf3 := bfroz hb2 c3 cf3
  replace c3 := bcell hb2 c3
  replace cf4 := bfroz hb2 c4 cf4
  replace c4 := bcell hb2 c4
  replace cf5 := bfroz hb2 c5 cf5
  replace c5 := bcell hb2 c5
  replace cf6 := bfroz hb2 c6 cf6
  replace c6 := bcell hb2 c6
  have B2 := below_next B1 hb2
  have hsl := slice_a s (eA s) hle w2
  go_wp2_with fail
  refine (ends _ _ hsz).mono ?_
  rintro e w3 ⟨rfl, hb3⟩
  rw [hsh]
  replace cf0 := bfroz hb3 c0 cf0
  replace c0 := bcell hb3 c0
  replace cf1 := bfroz hb3 c1 cf1
  replace c1 := bcell hb3 c1
  replace cf2 := bfroz hb3 c2 cf2
  replace c2 := bcell hb3 c2
  replace cf3 := bfroz hb3 c3 cf3
  replace c3 := bcell hb3 c3
  replace cf4 := bfroz hb3 c4 cf4
  replace c4 := bcell hb3 c4
  replace cf5 := bfroz hb3 c5 cf5
  replace c5 := bcell hb3 c5
  replace cf6 := bfroz hb3 c6 cf6
  replace c6 := bcell hb3 c6
  have B3 := below_next B2 hb3
  have G3 : w.heap.size < w3.heap.size := World.block_lt_of_cell? w3 _ c0
  have hs2 := slice_ab s (eA s) (eB s) hAB hlb
  have hs3 := slice_ab s 0 (eA s) (by omega) hle
  go_wp2
  go_region
  clear hs2 hs3 hsl
  go_wp2_with fail
  refine (words w3.heap.size _).mono ?_
  rintro e w4 ⟨rfl, hb4⟩
  have hb45 := below_next (below_drew (below_alloc (Below.refl w3.heap.size w3) _)) hb4
  replace cf0 := bfroz hb45 c0 cf0
  replace c0 := bcell hb45 c0
  replace cf1 := bfroz hb45 c1 cf1
  replace c1 := bcell hb45 c1
  replace cf2 := bfroz hb45 c2 cf2
  replace c2 := bcell hb45 c2
  replace cf3 := bfroz hb45 c3 cf3
  replace c3 := bcell hb45 c3
  replace cf4 := bfroz hb45 c4 cf4
  replace c4 := bcell hb45 c4
  replace cf5 := bfroz hb45 c5 cf5
  replace c5 := bcell hb45 c5
  replace cf6 := bfroz hb45 c6 cf6
  replace c6 := bcell hb45 c6
  have d0 : w4.cell? ⟨w3.heap.size, 0, none⟩ = some (.string (s.extract 0 (eA s))) := bcell hb4 (by go_simp)
  have df0 : w4.frozen? ⟨w3.heap.size, 0, none⟩ = false := bfroz (v := .string (s.extract 0 (eA s))) hb4 (by go_simp) (by go_simp)
  have d1 : w4.cell? ⟨w3.heap.size, 1, none⟩ = some (.string (s.extract (eA s) (eB s))) := bcell hb4 (by go_simp)
  have df1 : w4.frozen? ⟨w3.heap.size, 1, none⟩ = false := bfroz (v := .string (s.extract (eA s) (eB s))) hb4 (by go_simp) (by go_simp)
  have d2 : w4.cell? ⟨w3.heap.size, 2, none⟩ = some (.int .i64 0) := bcell hb4 (by go_simp)
  have df2 : w4.frozen? ⟨w3.heap.size, 2, none⟩ = false := bfroz (v := .int .i64 0) hb4 (by go_simp) (by go_simp)
  have d3 : w4.cell? ⟨w3.heap.size, 3, none⟩ = some (.int .i64 0) := bcell hb4 (by go_simp)
  have df3 : w4.frozen? ⟨w3.heap.size, 3, none⟩ = false := bfroz (v := .int .i64 0) hb4 (by go_simp) (by go_simp)
  have d4 : w4.cell? ⟨w3.heap.size, 4, none⟩ = some (.int .i64 0) := bcell hb4 (by go_simp)
  have df4 : w4.frozen? ⟨w3.heap.size, 4, none⟩ = false := bfroz (v := .int .i64 0) hb4 (by go_simp) (by go_simp)
  have d5 : w4.cell? ⟨w3.heap.size, 5, none⟩ = some (.int .i64 0) := bcell hb4 (by go_simp)
  have df5 : w4.frozen? ⟨w3.heap.size, 5, none⟩ = false := bfroz (v := .int .i64 0) hb4 (by go_simp) (by go_simp)
  have d6 : w4.cell? ⟨w3.heap.size, 6, none⟩ = some (.int .i64 0) := bcell hb4 (by go_simp)
  have df6 : w4.frozen? ⟨w3.heap.size, 6, none⟩ = false := bfroz (v := .int .i64 0) hb4 (by go_simp) (by go_simp)
  have B4 := below_next B3 hb45
  have G4 : w3.heap.size < w4.heap.size := World.block_lt_of_cell? w4 _ d0
  simp only [plc]
  have i0 := idx0
  have i1 := idx1
  have i2 := idx2
  have i3 := idx3
  have i4 := idx4
  go_wp2
  refine wp_loop_rounds 6 ?_
  rw [rounds_succ]
  go_wp2_with fail
  refine (u32e s (eB s + 0) _ (by first | rfl | omega) _ hs (by have := HZ.out; omega)).mono ?_
  rintro e w' ⟨rfl, rfl⟩
  go_wp2
  rw [rounds_succ]
  go_wp2_with fail
  refine (u32e s (eB s + 4) _ (by first | rfl | omega) _ hs (by have := HZ.out; omega)).mono ?_
  rintro e w' ⟨rfl, rfl⟩
  go_wp2
  rw [rounds_succ]
  go_wp2_with fail
  refine (u32e s (eB s + 8) _ (by first | rfl | omega) _ hs (by have := HZ.out; omega)).mono ?_
  rintro e w' ⟨rfl, rfl⟩
  go_wp2
  rw [rounds_succ]
  go_wp2_with fail
  refine (u32e s (eB s + 12) _ (by first | rfl | omega) _ hs (by have := HZ.out; omega)).mono ?_
  rintro e w' ⟨rfl, rfl⟩
  go_wp2
  rw [rounds_succ]
  go_wp2_with fail
  refine (u32e s (eB s + 16) _ (by first | rfl | omega) _ hs (by have := HZ.out; omega)).mono ?_
  rintro e w' ⟨rfl, rfl⟩
  go_wp2
  rw [rounds_succ]
  go_wp2
  exact bodyPost_ret (v := .tuple #[(soaOf s).val, .int .i64 0]) (by simp [results, Try.results37, go_sem, soaOf, Soa.val, c0, c1, c2, c3, c4, c5, c6]) rfl ⟨rfl, (by with_reducible repeat (first | exact B4 | refine below_set ?_ (Nat.le_refl _) | refine below_set ?_ (Nat.le_of_lt G3)))⟩
end Go.Proofs.Ytndcjleadggibaa.Rd

namespace Go.Proofs.Ytndcjleadggibaa.Rd
open Go.RowKit Go.PlainAid Go.Proofs.Ytndcjleadggibaa.Base Go.Proofs.Ytndcjleadggibaa.Oct Go.Proofs.Ytndcjleadggibaa.Sl Go.Proofs.Ytndcjleadggibaa.Nm
set_option linter.unusedVariables false

theorem rnum4e (s : ByteArray) (i : Nat) (j : Int) (hj : j = i) (w : World) (hs : s.size ≤ 9223372036854775000) (h : i + 4 ≤ s.size) : Calls Try.prog 53 #[.string s, .int .i64 j, .int .i64 4] w fun e w' => e = .returned (.tuple #[.int .i64 (be4 s i), .int .i64 ((i + 4 : Nat) : Int), .int .i64 0]) ∧ w = w' := by
  subst hj
  have := rnum4 s i w hs h
  simpa using this

set_option maxRecDepth 100000 in
set_option maxHeartbeats 4000000 in
theorem runsoaNo (s : ByteArray) (w : World) (hs : s.size ≤ 9223372036854775000) (h : mayD 6 s = false) : Calls Try.prog 38 #[.string s] w fun e w' => e = .returned (.tuple #[soa0.val, .int .i64 400]) ∧ Below w.heap.size w w' := by
  go_enter Try.func38, Try.ntmps38
  go_wp2_with fail
  refine (rdmay 6 s _ hs).mono ?_
  rintro e w1 ⟨rfl, hb1⟩
  rw [h]
  have c0 : w1.cell? ⟨w.heap.size, 0, none⟩ = some (.string ⟨#[]⟩) := bcell hb1 (by go_simp)
  have cf0 : w1.frozen? ⟨w.heap.size, 0, none⟩ = false := bfroz (v := .string ⟨#[]⟩) hb1 (by go_simp) (by go_simp)
  have c1 : w1.cell? ⟨w.heap.size, 1, none⟩ = some (.string ⟨#[]⟩) := bcell hb1 (by go_simp)
  have cf1 : w1.frozen? ⟨w.heap.size, 1, none⟩ = false := bfroz (v := .string ⟨#[]⟩) hb1 (by go_simp) (by go_simp)
  have c2 : w1.cell? ⟨w.heap.size, 2, none⟩ = some (.int .i64 0) := bcell hb1 (by go_simp)
  have cf2 : w1.frozen? ⟨w.heap.size, 2, none⟩ = false := bfroz (v := .int .i64 0) hb1 (by go_simp) (by go_simp)
  have c3 : w1.cell? ⟨w.heap.size, 3, none⟩ = some (.int .i64 0) := bcell hb1 (by go_simp)
  have cf3 : w1.frozen? ⟨w.heap.size, 3, none⟩ = false := bfroz (v := .int .i64 0) hb1 (by go_simp) (by go_simp)
  have c4 : w1.cell? ⟨w.heap.size, 4, none⟩ = some (.int .i64 0) := bcell hb1 (by go_simp)
  have cf4 : w1.frozen? ⟨w.heap.size, 4, none⟩ = false := bfroz (v := .int .i64 0) hb1 (by go_simp) (by go_simp)
  have c5 : w1.cell? ⟨w.heap.size, 5, none⟩ = some (.int .i64 0) := bcell hb1 (by go_simp)
  have cf5 : w1.frozen? ⟨w.heap.size, 5, none⟩ = false := bfroz (v := .int .i64 0) hb1 (by go_simp) (by go_simp)
  have c6 : w1.cell? ⟨w.heap.size, 6, none⟩ = some (.int .i64 0) := bcell hb1 (by go_simp)
  have cf6 : w1.frozen? ⟨w.heap.size, 6, none⟩ = false := bfroz (v := .int .i64 0) hb1 (by go_simp) (by go_simp)
  have B1 := below_next (below_alloc (Below.refl w.heap.size w) _) hb1
  go_wp2
  exact bodyPost_ret (v := .tuple #[soa0.val, .int .i64 400]) (by simp [results, Try.results38, go_sem, soa0, Soa.val, emp, c0, c1, c2, c3, c4, c5, c6]) rfl ⟨rfl, (by with_reducible repeat (first | exact B1 | refine below_set ?_ (Nat.le_refl _)))⟩

set_option maxRecDepth 100000 in
set_option maxHeartbeats 4000000 in
theorem runsoaYes (s : ByteArray) (w : World) (hs : s.size ≤ 9223372036854775000) (h : mayD 6 s = true) : Calls Try.prog 38 #[.string s] w fun e w' => e = .returned (.tuple #[(soaOf s).val, .int .i64 0]) ∧ Below w.heap.size w w' := by
  obtain ⟨hA, hB, hz, hAB, h6⟩ := may6 h
  have hle : eA s ≤ s.size := by omega
  have HZ := Lib.hid hz
  have HA := Lib.hid hAB
  have hlb : eB s ≤ s.size := by omega
  have k4 : wrap64 ((eB s : Int) + 4) = (eB s : Int) + 4 := w64 (by omega) (by omega)
  have k8 : wrap64 ((eB s : Int) + 8) = (eB s : Int) + 8 := w64 (by omega) (by omega)
  have k12 : wrap64 ((eB s : Int) + 12) = (eB s : Int) + 12 := w64 (by omega) (by omega)
  have k16 : wrap64 ((eB s : Int) + 16) = (eB s : Int) + 16 := w64 (by omega) (by omega)
  clear h6 hz
  go_enter Try.func38, Try.ntmps38
  go_wp2_with fail
  refine (rdmay 6 s _ hs).mono ?_
  rintro e w1 ⟨rfl, hb1⟩
  rw [h]
  have c0 : w1.cell? ⟨w.heap.size, 0, none⟩ = some (.string ⟨#[]⟩) := bcell hb1 (by go_simp)
  have cf0 : w1.frozen? ⟨w.heap.size, 0, none⟩ = false := bfroz (v := .string ⟨#[]⟩) hb1 (by go_simp) (by go_simp)
  have c1 : w1.cell? ⟨w.heap.size, 1, none⟩ = some (.string ⟨#[]⟩) := bcell hb1 (by go_simp)
  have cf1 : w1.frozen? ⟨w.heap.size, 1, none⟩ = false := bfroz (v := .string ⟨#[]⟩) hb1 (by go_simp) (by go_simp)
  have c2 : w1.cell? ⟨w.heap.size, 2, none⟩ = some (.int .i64 0) := bcell hb1 (by go_simp)
  have cf2 : w1.frozen? ⟨w.heap.size, 2, none⟩ = false := bfroz (v := .int .i64 0) hb1 (by go_simp) (by go_simp)
  have c3 : w1.cell? ⟨w.heap.size, 3, none⟩ = some (.int .i64 0) := bcell hb1 (by go_simp)
  have cf3 : w1.frozen? ⟨w.heap.size, 3, none⟩ = false := bfroz (v := .int .i64 0) hb1 (by go_simp) (by go_simp)
  have c4 : w1.cell? ⟨w.heap.size, 4, none⟩ = some (.int .i64 0) := bcell hb1 (by go_simp)
  have cf4 : w1.frozen? ⟨w.heap.size, 4, none⟩ = false := bfroz (v := .int .i64 0) hb1 (by go_simp) (by go_simp)
  have c5 : w1.cell? ⟨w.heap.size, 5, none⟩ = some (.int .i64 0) := bcell hb1 (by go_simp)
  have cf5 : w1.frozen? ⟨w.heap.size, 5, none⟩ = false := bfroz (v := .int .i64 0) hb1 (by go_simp) (by go_simp)
  have c6 : w1.cell? ⟨w.heap.size, 6, none⟩ = some (.int .i64 0) := bcell hb1 (by go_simp)
  have cf6 : w1.frozen? ⟨w.heap.size, 6, none⟩ = false := bfroz (v := .int .i64 0) hb1 (by go_simp) (by go_simp)
  have B1 := below_next (below_alloc (Below.refl w.heap.size w) _) hb1
  have G1 : w.heap.size < w1.heap.size := World.block_lt_of_cell? w1 _ c0
  go_wp2_with fail
  refine (whole s 0 _ hs (by omega)).mono ?_
  rintro e w2 ⟨rfl, hb2⟩
  rw [hA]
  replace cf0 := bfroz hb2 c0 cf0
  replace c0 := bcell hb2 c0
  replace cf1 := bfroz hb2 c1 cf1
  replace c1 := bcell hb2 c1
  replace cf2 := bfroz hb2 c2 cf2
  replace c2 := bcell hb2 c2
  replace cf3 := bfroz hb2 c3 cf3
  replace c3 := bcell hb2 c3
  replace cf4 := bfroz hb2 c4 cf4
  replace c4 := bcell hb2 c4
  replace cf5 := bfroz hb2 c5 cf5
  replace c5 := bcell hb2 c5
  replace cf6 := bfroz hb2 c6 cf6
  replace c6 := bcell hb2 c6
  have B2 := below_next B1 hb2
  go_wp2_with fail
  refine (whole s (eA s) _ hs hle).mono ?_
  rintro e w3 ⟨rfl, hb3⟩
  rw [hB]
  replace cf0 := bfroz hb3 c0 cf0
  replace c0 := bcell hb3 c0
  replace cf1 := bfroz hb3 c1 cf1
  replace c1 := bcell hb3 c1
  replace cf2 := bfroz hb3 c2 cf2
  replace c2 := bcell hb3 c2
  replace cf3 := bfroz hb3 c3 cf3
  replace c3 := bcell hb3 c3
  replace cf4 := bfroz hb3 c4 cf4
  replace c4 := bcell hb3 c4
  replace cf5 := bfroz hb3 c5 cf5
  replace c5 := bcell hb3 c5
  replace cf6 := bfroz hb3 c6 cf6
  replace c6 := bcell hb3 c6
  have B3 := below_next B2 hb3
  have G3 : w.heap.size < w3.heap.size := World.block_lt_of_cell? w3 _ c0
  have hs2 := slice_ab s (eA s) (eB s) hAB hlb
  have hs3 := slice_ab s 0 (eA s) (by omega) hle
  go_wp2
  go_region
  clear hs2 hs3
  go_wp2_with fail
  refine (rnum4e s (eB s + 0) _ (by first | rfl | omega) _ hs (by have := HZ.out; omega)).mono ?_
  rintro e w' ⟨rfl, rfl⟩
  go_wp2_with fail
  refine (rnum4e s (eB s + 4) _ (by first | rfl | omega) _ hs (by have := HZ.out; omega)).mono ?_
  rintro e w' ⟨rfl, rfl⟩
  go_wp2_with fail
  refine (rnum4e s (eB s + 8) _ (by first | rfl | omega) _ hs (by have := HZ.out; omega)).mono ?_
  rintro e w' ⟨rfl, rfl⟩
  go_wp2_with fail
  refine (rnum4e s (eB s + 12) _ (by first | rfl | omega) _ hs (by have := HZ.out; omega)).mono ?_
  rintro e w' ⟨rfl, rfl⟩
  go_wp2_with fail
  refine (rnum4e s (eB s + 16) _ (by first | rfl | omega) _ hs (by have := HZ.out; omega)).mono ?_
  rintro e w' ⟨rfl, rfl⟩
  go_wp2
  refine world_abs (P := fun W => bodyPost _ _ _ _ _ W) ?_
  intro W hW
  have x0 : W.cell? ⟨w.heap.size, 0, none⟩ = some (.string (s.extract 0 (eA s))) := by rw [hW]; go_simp
  have x1 : W.cell? ⟨w.heap.size, 1, none⟩ = some (.string (s.extract (eA s) (eB s))) := by rw [hW]; go_simp
  have x2 : W.cell? ⟨w.heap.size, 2, none⟩ = some (.int .i64 (be4 s (eB s))) := by rw [hW]; go_simp
  have x3 : W.cell? ⟨w.heap.size, 3, none⟩ = some (.int .i64 (be4 s (eB s + 4))) := by rw [hW]; go_simp
  have x4 : W.cell? ⟨w.heap.size, 4, none⟩ = some (.int .i64 (be4 s (eB s + 8))) := by rw [hW]; go_simp
  have x5 : W.cell? ⟨w.heap.size, 5, none⟩ = some (.int .i64 (be4 s (eB s + 12))) := by rw [hW]; go_simp
  have x6 : W.cell? ⟨w.heap.size, 6, none⟩ = some (.int .i64 (be4 s (eB s + 16))) := by rw [hW]; go_simp
  have BW : Below w.heap.size w W := by rw [hW]; with_reducible repeat (first | exact B3 | refine below_set ?_ (Nat.le_refl _) | refine below_set ?_ (Nat.le_of_lt G3) | refine below_drew ?_ | refine below_alloc ?_ _)
  clear hW
  exact bodyPost_ret (v := .tuple #[(soaOf s).val, .int .i64 0]) (by simp [results, Try.results38, go_sem, soaOf, Soa.val, x0, x1, x2, x3, x4, x5, x6]) rfl ⟨rfl, BW⟩
theorem unsoac (s : ByteArray) (w : World) (hs : s.size ≤ 9223372036854775000) : Calls Try.prog 37 #[.string s] w fun e w' => e = .returned (.tuple #[(unX s).val, .int .i64 (unE s)]) ∧ Below w.heap.size w w' := by
  unfold unX unE
  cases h : mayD 6 s with
  | true => exact unsoaYes s w hs h
  | false => exact unsoaNo s w hs h
theorem runsoac (s : ByteArray) (w : World) (hs : s.size ≤ 9223372036854775000) : Calls Try.prog 38 #[.string s] w fun e w' => e = .returned (.tuple #[(unX s).val, .int .i64 (unE s)]) ∧ Below w.heap.size w w' := by
  unfold unX unE
  cases h : mayD 6 s with
  | true => exact runsoaYes s w hs h
  | false => exact runsoaNo s w hs h
end Go.Proofs.Ytndcjleadggibaa.Rd

namespace Go.Proofs.Ytndcjleadggibaa.PRz
open Go.RowKit Go.Proofs.YtndcjleadggibaaW.PrintWords Go.Proofs.YtndcjleadggibaaW.PrintLast Go.Proofs.YtndcjleadggibaaW.PrintMore
attribute [local go_sem] max2_int min2_int max_two min_two max_three min_three max_four min_four   -- for this text's walks alone
set_option linter.unusedVariables false
set_option linter.unusedSimpArgs false

def errW : Option Int → Value
  | none => .nilIface
  | some c => .iface 0 (.int .i64 c)
theorem errW_none : errW none = .nilIface := rfl
theorem errW_some (c : Int) : errW (some c) = .iface 0 (.int .i64 c) := rfl

theorem info5 : (Try.prog.info? 5).map (fun i => (i.zero, i.size, i.bytes)) = some (some (.int .u8 0), 1, 1) := by kernel_rfl
theorem info9 : (Try.prog.info? 9).map (fun i => (i.zero, i.size, i.bytes)) = some (some (.string ⟨#[]⟩), 1, 16) := by kernel_rfl
-- the values' own types

end Go.Proofs.Ytndcjleadggibaa.PRz

namespace Go.Proofs.Ytndcjleadggibaa.OkRz
open Go.ChangeShapes Go.WideShapes Go.ChangeAt Go.RowKit Go.Proofs.YtndcjleadggibaaW.PrintWords Go.Proofs.Ytndcjleadggibaa.PRz Go.Proofs.Ytndcjleadggibaa.OpenKd
set_option linter.unusedVariables false
structure S59 where
  f0 : ByteArray
  f1 : ByteArray
  f2 : Int
  f3 : Int
  f4 : Int
  f5 : Int
  f6 : Int
def k59 : Kd S59 := Kd.iso (Kd.pair Kd.string (Kd.pair Kd.string (Kd.pair (Kd.int .i64) (Kd.pair (Kd.int .i64) (Kd.pair (Kd.int .i64) (Kd.pair (Kd.int .i64) (Kd.int .i64))))))) (fun x : S59 => (x.f0, x.f1, x.f2, x.f3, x.f4, x.f5, x.f6))
def ok59 (x : S59) : Prop := ((fun s => s.size ≤ maxLen) x.f0) ∧ ((fun s => s.size ≤ maxLen) x.f1) ∧ ((fun x => (Lit.int .i64 x).wf = true) x.f2) ∧ ((fun x => (Lit.int .i64 x).wf = true) x.f3) ∧ ((fun x => (Lit.int .i64 x).wf = true) x.f4) ∧ ((fun x => (Lit.int .i64 x).wf = true) x.f5) ∧ ((fun x => (Lit.int .i64 x).wf = true) x.f6)
def bk59 (x : S59) : Nat := (x.f0.size + 1) + (x.f1.size + 1) + 1 + 1 + 1 + 1 + 1 + 1
theorem cells59 : ∀ {l : List Value}, l.length = 7 → ∃ c0 c1 c2 c3 c4 c5 c6, l = [c0, c1, c2, c3, c4, c5, c6]
  | [c0, c1, c2, c3, c4, c5, c6], _ => ⟨c0, c1, c2, c3, c4, c5, c6, rfl⟩
theorem opens59 {H : Type} (enc : TypeId × Value → H) (W : World) (base : Nat) (spare : Nat → Bool) (held : Bool) : Opens enc Try.prog W base spare held 59 k59 ok59 bk59 := by
  intro fuel cs y h
  obtain ⟨xs, n, rfl, rfl, hl, hx, hf⟩ := DataW.trod_struct Try.underlying59 h
  obtain ⟨c0, c1, c2, c3, c4, c5, c6, rfl⟩ := cells59 (hl.trans (by kernel_rfl))
  obtain ⟨y0, e0⟩ : ∃ y, xs[0]? = some y := ⟨_, List.getElem?_eq_getElem (by rw [hx]; decide)⟩
  have g0 : DataW.trod enc Try.prog W base spare held n 9 (([c0, c1, c2, c3, c4, c5, c6].drop 0).take (Try.prog.cellsOf 9)) = xs[0]? := hf 0 _ rfl
  rw [e0, show Try.prog.cellsOf 9 = 1 by kernel_rfl] at g0
  obtain ⟨x0, k0', o0, b0⟩ := (opens_string enc Try.prog W base spare held Try.underlying9) _ [c0] y0 g0
  obtain ⟨y1, e1⟩ : ∃ y, xs[1]? = some y := ⟨_, List.getElem?_eq_getElem (by rw [hx]; decide)⟩
  have g1 : DataW.trod enc Try.prog W base spare held n 9 (([c0, c1, c2, c3, c4, c5, c6].drop 1).take (Try.prog.cellsOf 9)) = xs[1]? := hf 1 _ rfl
  rw [e1, show Try.prog.cellsOf 9 = 1 by kernel_rfl] at g1
  obtain ⟨x1, k1', o1, b1⟩ := (opens_string enc Try.prog W base spare held Try.underlying9) _ [c1] y1 g1
  obtain ⟨y2, e2⟩ : ∃ y, xs[2]? = some y := ⟨_, List.getElem?_eq_getElem (by rw [hx]; decide)⟩
  have g2 : DataW.trod enc Try.prog W base spare held n 3 (([c0, c1, c2, c3, c4, c5, c6].drop 2).take (Try.prog.cellsOf 3)) = xs[2]? := hf 2 _ rfl
  rw [e2, show Try.prog.cellsOf 3 = 1 by kernel_rfl] at g2
  obtain ⟨x2, k2', o2, b2⟩ := (opens_int enc Try.prog W base spare held Try.underlying3) _ [c2] y2 g2
  obtain ⟨y3, e3⟩ : ∃ y, xs[3]? = some y := ⟨_, List.getElem?_eq_getElem (by rw [hx]; decide)⟩
  have g3 : DataW.trod enc Try.prog W base spare held n 3 (([c0, c1, c2, c3, c4, c5, c6].drop 3).take (Try.prog.cellsOf 3)) = xs[3]? := hf 3 _ rfl
  rw [e3, show Try.prog.cellsOf 3 = 1 by kernel_rfl] at g3
  obtain ⟨x3, k3', o3, b3⟩ := (opens_int enc Try.prog W base spare held Try.underlying3) _ [c3] y3 g3
  obtain ⟨y4, e4⟩ : ∃ y, xs[4]? = some y := ⟨_, List.getElem?_eq_getElem (by rw [hx]; decide)⟩
  have g4 : DataW.trod enc Try.prog W base spare held n 3 (([c0, c1, c2, c3, c4, c5, c6].drop 4).take (Try.prog.cellsOf 3)) = xs[4]? := hf 4 _ rfl
  rw [e4, show Try.prog.cellsOf 3 = 1 by kernel_rfl] at g4
  obtain ⟨x4, k4', o4, b4⟩ := (opens_int enc Try.prog W base spare held Try.underlying3) _ [c4] y4 g4
  obtain ⟨y5, e5⟩ : ∃ y, xs[5]? = some y := ⟨_, List.getElem?_eq_getElem (by rw [hx]; decide)⟩
  have g5 : DataW.trod enc Try.prog W base spare held n 3 (([c0, c1, c2, c3, c4, c5, c6].drop 5).take (Try.prog.cellsOf 3)) = xs[5]? := hf 5 _ rfl
  rw [e5, show Try.prog.cellsOf 3 = 1 by kernel_rfl] at g5
  obtain ⟨x5, k5', o5, b5⟩ := (opens_int enc Try.prog W base spare held Try.underlying3) _ [c5] y5 g5
  obtain ⟨y6, e6⟩ : ∃ y, xs[6]? = some y := ⟨_, List.getElem?_eq_getElem (by rw [hx]; decide)⟩
  have g6 : DataW.trod enc Try.prog W base spare held n 3 (([c0, c1, c2, c3, c4, c5, c6].drop 6).take (Try.prog.cellsOf 3)) = xs[6]? := hf 6 _ rfl
  rw [e6, show Try.prog.cellsOf 3 = 1 by kernel_rfl] at g6
  obtain ⟨x6, k6', o6, b6⟩ := (opens_int enc Try.prog W base spare held Try.underlying3) _ [c6] y6 g6
  obtain rfl : xs = [y0, y1, y2, y3, y4, y5, y6] := by
    apply List.ext_getElem?
    intro i
    have hx' : xs.length = 7 := hx
    match i with
    | 0 => exact e0
    | 1 => exact e1
    | 2 => exact e2
    | 3 => exact e3
    | 4 => exact e4
    | 5 => exact e5
    | 6 => exact e6
    | i + 7 => rw [List.getElem?_eq_none (by omega), List.getElem?_eq_none (by simp)]
  have b0' : (x0.size + 1) ≤ Rows.uptoBulk y0.1 := b0
  have b1' : (x1.size + 1) ≤ Rows.uptoBulk y1.1 := b1
  have b2' : 1 ≤ Rows.uptoBulk y2.1 := b2
  have b3' : 1 ≤ Rows.uptoBulk y3.1 := b3
  have b4' : 1 ≤ Rows.uptoBulk y4.1 := b4
  have b5' : 1 ≤ Rows.uptoBulk y5.1 := b5
  have b6' : 1 ≤ Rows.uptoBulk y6.1 := b6
  refine ⟨⟨x0, x1, x2, x3, x4, x5, x6⟩, ⟨[c0], _, rfl, k0', ⟨[c1], _, rfl, k1', ⟨[c2], _, rfl, k2', ⟨[c3], _, rfl, k3', ⟨[c4], _, rfl, k4', ⟨[c5], _, rfl, k5', k6'⟩⟩⟩⟩⟩⟩, ⟨o0, o1, o2, o3, o4, o5, o6⟩, ?_⟩
  simp only [bk59, List.map_cons, List.map_nil, Rows.uptoBulk, Rows.uptoBulkAll]
  skip
  omega
end Go.Proofs.Ytndcjleadggibaa.OkRz
