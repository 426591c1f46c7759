/- A law's arguments laid open as Lean's own data: what each kind of data reads as, and how much of it there is (uptoBulk). -/
import Derived.Test.YtndcjleadggibaaRows
import Derived.WalkKit
import Derived.ProofKit
import Derived.ChangeArms
import Derived.DataReads
import Derived.Test.YtndcjleadggibaaProg
import Derived.Below
import Derived.Deep.Draws
import Derived.Deep.AppendLies
import Derived.Maps.AppendAt
import Derived.OwnWalk
import Derived.Laws.BytesArg
import Derived.Laws.MakeOwn
import Derived.Laws.OwnMore
import Derived.Deep.OwnRows
import Derived.Tactics
import Derived.Lib.ConvBytes
import Derived.Laws.Slices
import Derived.KernelRfl
import Derived.RowKit3
import Derived.Deep.LoopGhost
import Derived.Deep.QuietTactic
import Derived.BigQuiet
import Derived.WideLaws
import Derived.Deep.DeepCutAuto
import Derived.Deep.CutBlock
import Derived.Deep.RegionHeld3
import Derived.Laws.Rows
import Derived.Lib.AppendStr
import Derived.ArgAppend
import Derived.Laws.IdiomCopy
import Derived.OrdersHeld
import Derived.Laws.BitsLemmas
import Derived.RowKit
import Derived.Test.YtndcjleadggibaaSo1
namespace Go.Proofs.Ytndcjleadggibaa.OpenKd
open Go.ChangeShapes Go.WideShapes Go.ChangeAt Go.RowKit Go.Proofs.YtndcjleadggibaaW.PrintWords
set_option linter.unusedVariables false
theorem add_two (a : Addr) (i j : Nat) : (a.add i).add j = a.add (i + j) := by
  unfold Addr.add
  by_cases hi : i = 0
  · simp [hi]
  · by_cases hj : j = 0
    · simp [hj]
    · simp [hi, hj, Nat.add_assoc]
section
variable {H : Type} (enc : TypeId × Value → H) (P : Program) (W : World) (base : Nat) (spare : Nat → Bool) (held : Bool)
/-- Each datum of the type reads as a value of the kind; what is known of it, and how much it is. -/
def Opens {α : Type} (t : TypeId) (d : Kd α) (ok : α → Prop) (bk : α → Nat) : Prop :=
  ∀ fuel cs y, DataW.trod enc P W base spare held fuel t cs = some y → ∃ x, d.K W x cs ∧ ok x ∧ bk x ≤ Rows.uptoBulk y.1
theorem opens_int {t : TypeId} {k : IntKind} (hu : P.underlying t = some (.int k)) : Opens enc P W base spare held t (Kd.int k) (fun x => (Lit.int k x).wf = true) (fun _ => 1) := by
  intro fuel cs y h
  obtain ⟨n, rfl, rfl, hw⟩ := DataW.trod_int hu h
  exact ⟨n, rfl, hw, Nat.le_refl _⟩
theorem opens_bool {t : TypeId} (hu : P.underlying t = some .bool) : Opens enc P W base spare held t Kd.bool (fun _ => True) (fun _ => 1) := by
  intro fuel cs y h
  obtain ⟨n, rfl, rfl⟩ := DataW.trod_bool hu h
  exact ⟨n, rfl, trivial, Nat.le_refl _⟩
theorem opens_string {t : TypeId} (hu : P.underlying t = some .string) : Opens enc P W base spare held t Kd.string (fun s => s.size ≤ maxLen) (fun s => s.size + 1) := by
  intro fuel cs y h
  obtain ⟨s, rfl, rfl, hw⟩ := DataW.trod_string hu h
  refine ⟨s, rfl, hw, ?_⟩
  show s.size + 1 ≤ s.data.toList.length + 1
  rw [Array.length_toList]; exact Nat.le_refl _
/-- All of a list. -/
def bks {α : Type} (bk : α → Nat) (xs : List α) : Nat := (xs.map bk).sum + 1
theorem bulk_sum {α : Type} (bk : α → Nat) : ∀ (xs : List α) (es : List (DataW H × List MemPlace)), es.length = xs.length → (∀ i (h : i < xs.length) (h' : i < es.length), bk xs[i] ≤ Rows.uptoBulk es[i].1) → (xs.map bk).sum ≤ Rows.uptoBulkAll (es.map (·.1))
  | [], [], _, _ => Nat.le_refl _
  | x :: xs, e :: es, hl, h => by
    have h0 := h 0 (by simp) (by simp)
    have ih := bulk_sum bk xs es (by simpa using hl) (fun i hi hi' => h (i + 1) (by simpa using hi) (by simpa using hi'))
    simp only [List.map_cons, List.sum_cons, Rows.uptoBulkAll]
    have h0' : bk x ≤ Rows.uptoBulk e.1 := h0
    omega
variable {enc P W base spare held}
/-- A slice of elements of a kind: its value, and that it reads as a list. -/
theorem open_slice {α : Type} {t e : TypeId} {d : Kd α} {ok : α → Prop} {bk : α → Nat} (hu : P.underlying t = some (.slice e)) (hsz : P.cellsOf e = d.sz) (ho : Opens enc P W base spare held e d ok bk)
    {fuel : Nat} {cs : List Value} {y : DataW H × List MemPlace} (h : DataW.trod enc P W base spare held fuel t cs = some y) :
    ∃ (A : Option Addr) (xs : List α) (c : Nat), cs = [.slice A xs.length c] ∧ xs.length ≤ c ∧ d.C W A xs.length xs ∧ (∀ x ∈ xs, ok x) ∧ bks bk xs ≤ Rows.uptoBulk y.1 := by
  rcases DataW.trod_slice hu h with ⟨rfl, rfl⟩ | ⟨a, len, cap, elems, rest, n, _, rfl, rfl, hb, hl, hm, hlen, hel, hsp, hns⟩
  · exact ⟨none, [], 0, rfl, Nat.le_refl _, ⟨rfl, by simp, fun h => by simp at h⟩, by simp, by simp [bks, Rows.uptoBulk]⟩
  have key : ∀ m, m ≤ len → ∃ xs : List α, xs.length = m ∧ (∀ x ∈ xs, ok x) ∧ (∀ i (hi : i < xs.length) (h' : i < elems.length), bk xs[i] ≤ Rows.uptoBulk elems[i].1) ∧
      ∀ i (hi : i < xs.length), ∃ c, c.length = d.sz ∧ d.K W xs[i] c ∧ ∀ j u, c[j]? = some u → W.cell? (a.add (i * d.sz + j)) = some u := by
    intro m
    induction m with
    | zero => exact fun _ => ⟨[], rfl, by simp, by simp, by simp⟩
    | succ m ih =>
      intro hm'
      obtain ⟨xs, hx, h1, h2, h3⟩ := ih (by omega)
      have hi : m < elems.length := by omega
      have e0 := hel m (by omega)
      rw [List.getElem?_eq_getElem hi, Option.bind_eq_some_iff] at e0
      obtain ⟨c, hc, ht⟩ := e0
      obtain ⟨x, hk, hok, hbk⟩ := ho _ _ _ ht
      obtain ⟨_, hcl, hcc⟩ := World.cells?_some hc
      rw [hsz] at hcl hcc
      refine ⟨xs ++ [x], by simp [hx], ?_, ?_, ?_⟩
      · intro z hz
        rcases List.mem_append.1 hz with hz | hz
        · exact h1 z hz
        · rw [List.mem_singleton.1 hz]; exact hok
      · intro i hi2 h'
        by_cases hlt : i < xs.length
        · rw [List.getElem_append_left hlt]; exact h2 i hlt h'
        · have : i = m := by rw [List.length_append, List.length_singleton] at hi2; omega
          subst this
          rw [List.getElem_append_right (by omega)]
          simpa using hbk
      · intro i hi2
        by_cases hlt : i < xs.length
        · rw [List.getElem_append_left hlt]; exact h3 i hlt
        · have : i = m := by rw [List.length_append, List.length_singleton] at hi2; omega
          subst this
          rw [List.getElem_append_right (by omega)]
          refine ⟨c, hcl, by simpa using hk, fun j u hj => ?_⟩
          have hj' : j < d.sz := by rw [← hcl]; exact (List.getElem?_eq_some_iff.1 hj).1
          have := hcc j hj'
          rw [hj] at this
          rw [← this, add_two]
  obtain ⟨xs, hx, h1, h2, h3⟩ := key len (Nat.le_refl _)
  refine ⟨some a, xs, cap, by rw [hx], by omega, ⟨rfl, by unfold maxLen at hm; omega, fun _ => ⟨a, rfl, fun j p hj => ?_⟩⟩, h1, ?_⟩
  · obtain ⟨hj', rfl⟩ := List.getElem?_eq_some_iff.1 hj
    exact h3 j hj'
  · have := bulk_sum bk xs elems (by omega) h2
    simp only [Rows.uptoBulk, bks]
    omega
variable (enc P W base spare held)
theorem opens_slice {α : Type} {t e : TypeId} {d : Kd α} {ok : α → Prop} {bk : α → Nat} (hu : P.underlying t = some (.slice e)) (hsz : P.cellsOf e = d.sz) (ho : Opens enc P W base spare held e d ok bk) :
    Opens enc P W base spare held t (Kd.slice e d) (fun xs => ∀ x ∈ xs, ok x) (bks bk) := by
  intro fuel cs y h
  obtain ⟨A, xs, c, rfl, hl, hC, h1, h2⟩ := open_slice hu hsz ho h
  exact ⟨xs, ⟨A, c, rfl, hl, hC⟩, h1, h2⟩
end
end Go.Proofs.Ytndcjleadggibaa.OpenKd

namespace Go.Proofs.Ytndcjleadggibaa.StepStr
open Go.RowKit Go.Proofs.YtndcjleadggibaaW.PrintWords
set_option linter.unusedVariables false
section
variable {P : Program} {ops : Array Oper} {o : Oper} {a : Act} {Q : Exit → Act → World → Prop} {K : Act → World → Prop}
theorem step_append_str {w0 W : World} (base : Nat) (hw : Region.wanted o (yielded ops a.tmps) = true) (s x : Operand) (t u e : TypeId)
    (ho : o.op = .call { callee := .builtin .append, args := #[s, x], argTypes := #[t, u] })
    (ht : P.underlying t = some (.slice e)) (hu : P.underlying u = some .string) (hinfo : (P.info? e).map (fun i => (i.zero, i.size, i.bytes)) = some (some (.int .u8 0), 1, 1))
    (v : Value) (xs : List Int) (y : ByteArray) (hs : a.eval s = v) (hx : a.eval x = .string y)
    (HO : W.ownsRow base e 1 v xs.length (nums .u8 xs)) (HB : Below base w0 W) (hbase : base ≤ W.heap.size) (hl : xs.length + y.size ≤ 140737488355328)
    (h : ∀ v1 w1, w1.ownsRow base e 1 v1 (xs ++ bytesOf y).length (nums .u8 (xs ++ bytesOf y)) → Below base w0 w1 → W.grownBy w1 v.ownBlock → K (a.put o.dst v1) w1) :
    if Region.wanted o (yielded ops a.tmps) = true then Oper.wp P o a W K Q else K (a.put o.dst undef) W := by
  obtain ⟨i0, hi, hzz⟩ := Option.map_eq_some_iff.1 hinfo
  simp only [Prod.mk.injEq] at hzz
  obtain ⟨hz0, hz1, hz2⟩ := hzz
  rw [if_pos hw]
  obtain ⟨v1, w1, hr, hown, hg, _⟩ := Lib.run_append_own_string (P := P) W base t u o.type e i0 ht hu hi hz0 hz1 hz2 v xs.length (nums .u8 xs) HO y (by simp only [maxLen]; omega) hl hbase
  have hl2 : (xs ++ bytesOf y).length = xs.length + y.size := by rw [List.length_append, bytesOf_length]
  have hc : nums .u8 (xs ++ bytesOf y) = nums .u8 xs ++ Lib.strCells y := by
    rw [nums_append]
    congr 1
    simp [nums, bytesOf, Lib.strCells]
  unfold Oper.wp execOp
  simp only [ho, resolve, invoke, builtin, Sem.run_bind, Sem.run_pure, Result.andThen_ok, List.map_toArray, List.map_cons, List.map_nil, hs, hx, hr]
  exact h v1 w1 (by rw [hl2, hc]; exact hown) (HB.grown hg hbase (own_base HO)) hg
end
end Go.Proofs.Ytndcjleadggibaa.StepStr

namespace Go.Proofs.Ytndcjleadggibaa.POz
open Go.RowKit Go.Proofs.YtndcjleadggibaaW.PrintWords Go.Proofs.YtndcjleadggibaaW.PrintLast Go.Proofs.YtndcjleadggibaaW.PrintMore
attribute [local go_sem] max2_int min2_int max_two min_two max_three min_three max_four min_four   -- for this text's walks alone
set_option linter.unusedVariables false
set_option linter.unusedSimpArgs false

def errW : Option Int → Value
  | none => .nilIface
  | some c => .iface 0 (.int .i64 c)
theorem errW_none : errW none = .nilIface := rfl
theorem errW_some (c : Int) : errW (some c) = .iface 0 (.int .i64 c) := rfl

theorem info5 : (Try.prog.info? 5).map (fun i => (i.zero, i.size, i.bytes)) = some (some (.int .u8 0), 1, 1) := by kernel_rfl
theorem info52 : (Try.prog.info? 52).map (fun i => (i.zero, i.size, i.bytes)) = some (some (.agg #[(.int .i64 0), (.string ⟨#[]⟩)]), 2, 24) := by kernel_rfl
-- the values' own types
/-! #### struct type 52 -/
structure S52 where
  f0 : Int
  f1 : ByteArray
def z52 : S52 := ⟨(0 : Int), (⟨#[]⟩ : ByteArray)⟩
def k52 : Kd S52 := Kd.iso (Kd.pair (Kd.int .i64) Kd.string) (fun x : S52 => (x.f0, x.f1))
theorem k52_open {w : World} {x : S52} {cs : List Value} (h : k52.K w x cs) : cs = [.int .i64 x.f0, .string x.f1] := by
  obtain ⟨_, _, rfl, rfl, rfl⟩ := h
  exact rfl
theorem k52_openM {w : World} {base : Nat} {ok : Nat → Prop} {x : S52} {cs : List Value} (h : k52.M w base ok x cs) : cs = [.int .i64 x.f0, .string x.f1] := by
  obtain ⟨_, _, rfl, rfl, rfl⟩ := h
  exact rfl
theorem k52_mkM (w : World) (base : Nat) (ok : Nat → Prop) (x : S52)  : k52.M w base ok x [.int .i64 x.f0, .string x.f1] := ⟨[.int .i64 x.f0], [.string x.f1], rfl, rfl, rfl⟩
def rd_T52 (xs : List S52) (i : Int) : S52 := xs.getD i.toNat z52
theorem at_T52 {w : World} {A : Option Addr} {n : Nat} {xs : List S52} (h : Kd.C k52 w A n xs) (i : Int) (h0 : 0 ≤ i) (h1 : i < n) : ∃ ad , A = some ad ∧ w.cell? (ad.add (i.toNat * 2)) = some (.int .i64 (rd_T52 xs i).f0) ∧ w.cell? ⟨(ad.add (i.toNat * 2)).block, (ad.add (i.toNat * 2)).off + 1, none⟩ = some (.string (rd_T52 xs i).f1) := by
  obtain ⟨ad, c, e, _, hK, hc0⟩ := Kd.C_get h z52 i h0 h1
  have hc : ∀ j u, c[j]? = some u → w.cell? (ad.add (i.toNat * 2 + j)) = some u := hc0
  obtain rfl := k52_open hK
  exact ⟨ad, e, hc 0 _ rfl, by rw [← add_field _ _ 1 (by omega)]; exact hc 1 _ rfl⟩

/-! #### struct type 26 -/
structure S26 where
  f0 : ByteArray
  f1 : Int
  f2 : Int
  f3 : Int
  f4 : ByteArray
def z26 : S26 := ⟨(⟨#[]⟩ : ByteArray), (0 : Int), (0 : Int), (0 : Int), (⟨#[]⟩ : ByteArray)⟩
def k26 : Kd S26 := Kd.iso (Kd.pair Kd.string (Kd.pair (Kd.int .i64) (Kd.pair (Kd.int .i64) (Kd.pair (Kd.int .i64) Kd.string)))) (fun x : S26 => (x.f0, x.f1, x.f2, x.f3, x.f4))
theorem k26_open {w : World} {x : S26} {cs : List Value} (h : k26.K w x cs) : cs = [.string x.f0, .int .i64 x.f1, .int .i64 x.f2, .int .i64 x.f3, .string x.f4] := by
  obtain ⟨_, _, rfl, rfl, ⟨_, _, rfl, rfl, ⟨_, _, rfl, rfl, ⟨_, _, rfl, rfl, rfl⟩⟩⟩⟩ := h
  exact rfl
theorem k26_mkM (w : World) (base : Nat) (ok : Nat → Prop) (x : S26)  : k26.M w base ok x [.string x.f0, .int .i64 x.f1, .int .i64 x.f2, .int .i64 x.f3, .string x.f4] := ⟨[.string x.f0], [.int .i64 x.f1, .int .i64 x.f2, .int .i64 x.f3, .string x.f4], rfl, rfl, ⟨[.int .i64 x.f1], [.int .i64 x.f2, .int .i64 x.f3, .string x.f4], rfl, rfl, ⟨[.int .i64 x.f2], [.int .i64 x.f3, .string x.f4], rfl, rfl, ⟨[.int .i64 x.f3], [.string x.f4], rfl, rfl, rfl⟩⟩⟩⟩
def rd_T26 (xs : List S26) (i : Int) : S26 := xs.getD i.toNat z26
theorem at_T26 {w : World} {A : Option Addr} {n : Nat} {xs : List S26} (h : Kd.C k26 w A n xs) (i : Int) (h0 : 0 ≤ i) (h1 : i < n) : ∃ ad , A = some ad ∧ w.cell? (ad.add (i.toNat * 5)) = some (.string (rd_T26 xs i).f0) ∧ w.cell? ⟨(ad.add (i.toNat * 5)).block, (ad.add (i.toNat * 5)).off + 1, none⟩ = some (.int .i64 (rd_T26 xs i).f1) ∧ w.cell? ⟨(ad.add (i.toNat * 5)).block, (ad.add (i.toNat * 5)).off + 2, none⟩ = some (.int .i64 (rd_T26 xs i).f2) ∧ w.cell? ⟨(ad.add (i.toNat * 5)).block, (ad.add (i.toNat * 5)).off + 3, none⟩ = some (.int .i64 (rd_T26 xs i).f3) ∧ w.cell? ⟨(ad.add (i.toNat * 5)).block, (ad.add (i.toNat * 5)).off + 4, none⟩ = some (.string (rd_T26 xs i).f4) := by
  obtain ⟨ad, c, e, _, hK, hc0⟩ := Kd.C_get h z26 i h0 h1
  have hc : ∀ j u, c[j]? = some u → w.cell? (ad.add (i.toNat * 5 + j)) = some u := hc0
  obtain rfl := k26_open hK
  exact ⟨ad, e, hc 0 _ rfl, by rw [← add_field _ _ 1 (by omega)]; exact hc 1 _ rfl, by rw [← add_field _ _ 2 (by omega)]; exact hc 2 _ rfl, by rw [← add_field _ _ 3 (by omega)]; exact hc 3 _ rfl, by rw [← add_field _ _ 4 (by omega)]; exact hc 4 _ rfl⟩

/-! #### struct type 124 -/
structure S124 where
  f0 : ByteArray
  f1 : Int
  f2 : Int
def k124 : Kd S124 := Kd.iso (Kd.pair Kd.string (Kd.pair (Kd.int .i64) (Kd.int .i64))) (fun x : S124 => (x.f0, x.f1, x.f2))
end Go.Proofs.Ytndcjleadggibaa.POz

namespace Go.Proofs.Ytndcjleadggibaa.OkOz
open Go.ChangeShapes Go.WideShapes Go.ChangeAt Go.RowKit Go.Proofs.YtndcjleadggibaaW.PrintWords Go.Proofs.Ytndcjleadggibaa.POz Go.Proofs.Ytndcjleadggibaa.OpenKd
set_option linter.unusedVariables false
def ok52 (x : S52) : Prop := ((fun x => (Lit.int .i64 x).wf = true) x.f0) ∧ ((fun s => s.size ≤ maxLen) x.f1)
def bk52 (x : S52) : Nat := 1 + (x.f1.size + 1) + 1
theorem cells52 : ∀ {l : List Value}, l.length = 2 → ∃ c0 c1, l = [c0, c1]
  | [c0, c1], _ => ⟨c0, c1, rfl⟩
theorem opens52 {H : Type} (enc : TypeId × Value → H) (W : World) (base : Nat) (spare : Nat → Bool) (held : Bool) : Opens enc Try.prog W base spare held 52 k52 ok52 bk52 := by
  intro fuel cs y h
  obtain ⟨xs, n, rfl, rfl, hl, hx, hf⟩ := DataW.trod_struct Try.underlying52 h
  obtain ⟨c0, c1, rfl⟩ := cells52 (hl.trans (by kernel_rfl))
  obtain ⟨y0, e0⟩ : ∃ y, xs[0]? = some y := ⟨_, List.getElem?_eq_getElem (by rw [hx]; decide)⟩
  have g0 : DataW.trod enc Try.prog W base spare held n 3 (([c0, c1].drop 0).take (Try.prog.cellsOf 3)) = xs[0]? := hf 0 _ rfl
  rw [e0, show Try.prog.cellsOf 3 = 1 by kernel_rfl] at g0
  obtain ⟨x0, k0', o0, b0⟩ := (opens_int enc Try.prog W base spare held Try.underlying3) _ [c0] y0 g0
  obtain ⟨y1, e1⟩ : ∃ y, xs[1]? = some y := ⟨_, List.getElem?_eq_getElem (by rw [hx]; decide)⟩
  have g1 : DataW.trod enc Try.prog W base spare held n 9 (([c0, c1].drop 1).take (Try.prog.cellsOf 9)) = xs[1]? := hf 1 _ rfl
  rw [e1, show Try.prog.cellsOf 9 = 1 by kernel_rfl] at g1
  obtain ⟨x1, k1', o1, b1⟩ := (opens_string enc Try.prog W base spare held Try.underlying9) _ [c1] y1 g1
  obtain rfl : xs = [y0, y1] := by
    apply List.ext_getElem?
    intro i
    have hx' : xs.length = 2 := hx
    match i with
    | 0 => exact e0
    | 1 => exact e1
    | i + 2 => rw [List.getElem?_eq_none (by omega), List.getElem?_eq_none (by simp)]
  have b0' : 1 ≤ Rows.uptoBulk y0.1 := b0
  have b1' : (x1.size + 1) ≤ Rows.uptoBulk y1.1 := b1
  refine ⟨⟨x0, x1⟩, ⟨[c0], _, rfl, k0', k1'⟩, ⟨o0, o1⟩, ?_⟩
  simp only [bk52, List.map_cons, List.map_nil, Rows.uptoBulk, Rows.uptoBulkAll]
  skip
  omega
structure S24 where
  f0 : Int
  f1 : Int
  f2 : Int
  f3 : Bool
  f4 : Int
  f5 : List (S52)
def k24 : Kd S24 := Kd.iso (Kd.pair (Kd.int .i64) (Kd.pair (Kd.int .i64) (Kd.pair (Kd.int .i64) (Kd.pair Kd.bool (Kd.pair (Kd.int .i64) (Kd.slice 52 k52)))))) (fun x : S24 => (x.f0, x.f1, x.f2, x.f3, x.f4, x.f5))
def ok24 (x : S24) : Prop := ((fun x => (Lit.int .i64 x).wf = true) x.f0) ∧ ((fun x => (Lit.int .i64 x).wf = true) x.f1) ∧ ((fun x => (Lit.int .i64 x).wf = true) x.f2) ∧ ((fun _ => True) x.f3) ∧ ((fun x => (Lit.int .i64 x).wf = true) x.f4) ∧ ((fun xs => ∀ x ∈ xs, ok52 x) x.f5)
def bk24 (x : S24) : Nat := 1 + 1 + 1 + 1 + 1 + bks bk52 x.f5 + 1
theorem cells24 : ∀ {l : List Value}, l.length = 6 → ∃ c0 c1 c2 c3 c4 c5, l = [c0, c1, c2, c3, c4, c5]
  | [c0, c1, c2, c3, c4, c5], _ => ⟨c0, c1, c2, c3, c4, c5, rfl⟩
theorem opens24 {H : Type} (enc : TypeId × Value → H) (W : World) (base : Nat) (spare : Nat → Bool) (held : Bool) : Opens enc Try.prog W base spare held 24 k24 ok24 bk24 := by
  intro fuel cs y h
  obtain ⟨xs, n, rfl, rfl, hl, hx, hf⟩ := DataW.trod_struct Try.underlying24 h
  obtain ⟨c0, c1, c2, c3, c4, c5, rfl⟩ := cells24 (hl.trans (by kernel_rfl))
  obtain ⟨y0, e0⟩ : ∃ y, xs[0]? = some y := ⟨_, List.getElem?_eq_getElem (by rw [hx]; decide)⟩
  have g0 : DataW.trod enc Try.prog W base spare held n 3 (([c0, c1, c2, c3, c4, c5].drop 0).take (Try.prog.cellsOf 3)) = xs[0]? := hf 0 _ rfl
  rw [e0, show Try.prog.cellsOf 3 = 1 by kernel_rfl] at g0
  obtain ⟨x0, k0', o0, b0⟩ := (opens_int enc Try.prog W base spare held Try.underlying3) _ [c0] y0 g0
  obtain ⟨y1, e1⟩ : ∃ y, xs[1]? = some y := ⟨_, List.getElem?_eq_getElem (by rw [hx]; decide)⟩
  have g1 : DataW.trod enc Try.prog W base spare held n 3 (([c0, c1, c2, c3, c4, c5].drop 1).take (Try.prog.cellsOf 3)) = xs[1]? := hf 1 _ rfl
  rw [e1, show Try.prog.cellsOf 3 = 1 by kernel_rfl] at g1
  obtain ⟨x1, k1', o1, b1⟩ := (opens_int enc Try.prog W base spare held Try.underlying3) _ [c1] y1 g1
  obtain ⟨y2, e2⟩ : ∃ y, xs[2]? = some y := ⟨_, List.getElem?_eq_getElem (by rw [hx]; decide)⟩
  have g2 : DataW.trod enc Try.prog W base spare held n 3 (([c0, c1, c2, c3, c4, c5].drop 2).take (Try.prog.cellsOf 3)) = xs[2]? := hf 2 _ rfl
  rw [e2, show Try.prog.cellsOf 3 = 1 by kernel_rfl] at g2
  obtain ⟨x2, k2', o2, b2⟩ := (opens_int enc Try.prog W base spare held Try.underlying3) _ [c2] y2 g2
  obtain ⟨y3, e3⟩ : ∃ y, xs[3]? = some y := ⟨_, List.getElem?_eq_getElem (by rw [hx]; decide)⟩
  have g3 : DataW.trod enc Try.prog W base spare held n 4 (([c0, c1, c2, c3, c4, c5].drop 3).take (Try.prog.cellsOf 4)) = xs[3]? := hf 3 _ rfl
  rw [e3, show Try.prog.cellsOf 4 = 1 by kernel_rfl] at g3
  obtain ⟨x3, k3', o3, b3⟩ := (opens_bool enc Try.prog W base spare held Try.underlying4) _ [c3] y3 g3
  obtain ⟨y4, e4⟩ : ∃ y, xs[4]? = some y := ⟨_, List.getElem?_eq_getElem (by rw [hx]; decide)⟩
  have g4 : DataW.trod enc Try.prog W base spare held n 3 (([c0, c1, c2, c3, c4, c5].drop 4).take (Try.prog.cellsOf 3)) = xs[4]? := hf 4 _ rfl
  rw [e4, show Try.prog.cellsOf 3 = 1 by kernel_rfl] at g4
  obtain ⟨x4, k4', o4, b4⟩ := (opens_int enc Try.prog W base spare held Try.underlying3) _ [c4] y4 g4
  obtain ⟨y5, e5⟩ : ∃ y, xs[5]? = some y := ⟨_, List.getElem?_eq_getElem (by rw [hx]; decide)⟩
  have g5 : DataW.trod enc Try.prog W base spare held n 22 (([c0, c1, c2, c3, c4, c5].drop 5).take (Try.prog.cellsOf 22)) = xs[5]? := hf 5 _ rfl
  rw [e5, show Try.prog.cellsOf 22 = 1 by kernel_rfl] at g5
  obtain ⟨x5, k5', o5, b5⟩ := (opens_slice enc Try.prog W base spare held Try.underlying22 (by kernel_rfl) (opens52 enc W base spare held)) _ [c5] y5 g5
  obtain rfl : xs = [y0, y1, y2, y3, y4, y5] := by
    apply List.ext_getElem?
    intro i
    have hx' : xs.length = 6 := hx
    match i with
    | 0 => exact e0
    | 1 => exact e1
    | 2 => exact e2
    | 3 => exact e3
    | 4 => exact e4
    | 5 => exact e5
    | i + 6 => rw [List.getElem?_eq_none (by omega), List.getElem?_eq_none (by simp)]
  have b0' : 1 ≤ Rows.uptoBulk y0.1 := b0
  have b1' : 1 ≤ Rows.uptoBulk y1.1 := b1
  have b2' : 1 ≤ Rows.uptoBulk y2.1 := b2
  have b3' : 1 ≤ Rows.uptoBulk y3.1 := b3
  have b4' : 1 ≤ Rows.uptoBulk y4.1 := b4
  have b5' : bks bk52 x5 ≤ Rows.uptoBulk y5.1 := b5
  refine ⟨⟨x0, x1, x2, x3, x4, x5⟩, ⟨[c0], _, rfl, k0', ⟨[c1], _, rfl, k1', ⟨[c2], _, rfl, k2', ⟨[c3], _, rfl, k3', ⟨[c4], _, rfl, k4', k5'⟩⟩⟩⟩⟩, ⟨o0, o1, o2, o3, o4, o5⟩, ?_⟩
  simp only [bk24, List.map_cons, List.map_nil, Rows.uptoBulk, Rows.uptoBulkAll]
  skip
  omega
def ok26 (x : S26) : Prop := ((fun s => s.size ≤ maxLen) x.f0) ∧ ((fun x => (Lit.int .i64 x).wf = true) x.f1) ∧ ((fun x => (Lit.int .i64 x).wf = true) x.f2) ∧ ((fun x => (Lit.int .i64 x).wf = true) x.f3) ∧ ((fun s => s.size ≤ maxLen) x.f4)
def bk26 (x : S26) : Nat := (x.f0.size + 1) + 1 + 1 + 1 + (x.f4.size + 1) + 1
theorem cells26 : ∀ {l : List Value}, l.length = 5 → ∃ c0 c1 c2 c3 c4, l = [c0, c1, c2, c3, c4]
  | [c0, c1, c2, c3, c4], _ => ⟨c0, c1, c2, c3, c4, rfl⟩
theorem opens26 {H : Type} (enc : TypeId × Value → H) (W : World) (base : Nat) (spare : Nat → Bool) (held : Bool) : Opens enc Try.prog W base spare held 26 k26 ok26 bk26 := by
  intro fuel cs y h
  obtain ⟨xs, n, rfl, rfl, hl, hx, hf⟩ := DataW.trod_struct Try.underlying26 h
  obtain ⟨c0, c1, c2, c3, c4, rfl⟩ := cells26 (hl.trans (by kernel_rfl))
  obtain ⟨y0, e0⟩ : ∃ y, xs[0]? = some y := ⟨_, List.getElem?_eq_getElem (by rw [hx]; decide)⟩
  have g0 : DataW.trod enc Try.prog W base spare held n 9 (([c0, c1, c2, c3, c4].drop 0).take (Try.prog.cellsOf 9)) = xs[0]? := hf 0 _ rfl
  rw [e0, show Try.prog.cellsOf 9 = 1 by kernel_rfl] at g0
  obtain ⟨x0, k0', o0, b0⟩ := (opens_string enc Try.prog W base spare held Try.underlying9) _ [c0] y0 g0
  obtain ⟨y1, e1⟩ : ∃ y, xs[1]? = some y := ⟨_, List.getElem?_eq_getElem (by rw [hx]; decide)⟩
  have g1 : DataW.trod enc Try.prog W base spare held n 3 (([c0, c1, c2, c3, c4].drop 1).take (Try.prog.cellsOf 3)) = xs[1]? := hf 1 _ rfl
  rw [e1, show Try.prog.cellsOf 3 = 1 by kernel_rfl] at g1
  obtain ⟨x1, k1', o1, b1⟩ := (opens_int enc Try.prog W base spare held Try.underlying3) _ [c1] y1 g1
  obtain ⟨y2, e2⟩ : ∃ y, xs[2]? = some y := ⟨_, List.getElem?_eq_getElem (by rw [hx]; decide)⟩
  have g2 : DataW.trod enc Try.prog W base spare held n 3 (([c0, c1, c2, c3, c4].drop 2).take (Try.prog.cellsOf 3)) = xs[2]? := hf 2 _ rfl
  rw [e2, show Try.prog.cellsOf 3 = 1 by kernel_rfl] at g2
  obtain ⟨x2, k2', o2, b2⟩ := (opens_int enc Try.prog W base spare held Try.underlying3) _ [c2] y2 g2
  obtain ⟨y3, e3⟩ : ∃ y, xs[3]? = some y := ⟨_, List.getElem?_eq_getElem (by rw [hx]; decide)⟩
  have g3 : DataW.trod enc Try.prog W base spare held n 3 (([c0, c1, c2, c3, c4].drop 3).take (Try.prog.cellsOf 3)) = xs[3]? := hf 3 _ rfl
  rw [e3, show Try.prog.cellsOf 3 = 1 by kernel_rfl] at g3
  obtain ⟨x3, k3', o3, b3⟩ := (opens_int enc Try.prog W base spare held Try.underlying3) _ [c3] y3 g3
  obtain ⟨y4, e4⟩ : ∃ y, xs[4]? = some y := ⟨_, List.getElem?_eq_getElem (by rw [hx]; decide)⟩
  have g4 : DataW.trod enc Try.prog W base spare held n 9 (([c0, c1, c2, c3, c4].drop 4).take (Try.prog.cellsOf 9)) = xs[4]? := hf 4 _ rfl
  rw [e4, show Try.prog.cellsOf 9 = 1 by kernel_rfl] at g4
  obtain ⟨x4, k4', o4, b4⟩ := (opens_string enc Try.prog W base spare held Try.underlying9) _ [c4] y4 g4
  obtain rfl : xs = [y0, y1, y2, y3, y4] := by
    apply List.ext_getElem?
    intro i
    have hx' : xs.length = 5 := hx
    match i with
    | 0 => exact e0
    | 1 => exact e1
    | 2 => exact e2
    | 3 => exact e3
    | 4 => exact e4
    | i + 5 => rw [List.getElem?_eq_none (by omega), List.getElem?_eq_none (by simp)]
  have b0' : (x0.size + 1) ≤ Rows.uptoBulk y0.1 := b0
  have b1' : 1 ≤ Rows.uptoBulk y1.1 := b1
  have b2' : 1 ≤ Rows.uptoBulk y2.1 := b2
  have b3' : 1 ≤ Rows.uptoBulk y3.1 := b3
  have b4' : (x4.size + 1) ≤ Rows.uptoBulk y4.1 := b4
  refine ⟨⟨x0, x1, x2, x3, x4⟩, ⟨[c0], _, rfl, k0', ⟨[c1], _, rfl, k1', ⟨[c2], _, rfl, k2', ⟨[c3], _, rfl, k3', k4'⟩⟩⟩⟩, ⟨o0, o1, o2, o3, o4⟩, ?_⟩
  simp only [bk26, List.map_cons, List.map_nil, Rows.uptoBulk, Rows.uptoBulkAll]
  skip
  omega
structure S28 where
  f0 : Int
  f1 : Bool
  f2 : Int
  f3 : Bool
  f4 : Bool
  f5 : Bool
  f6 : Bool
  f7 : Int
  f8 : Int
def k28 : Kd S28 := Kd.iso (Kd.pair (Kd.int .i64) (Kd.pair Kd.bool (Kd.pair (Kd.int .i64) (Kd.pair Kd.bool (Kd.pair Kd.bool (Kd.pair Kd.bool (Kd.pair Kd.bool (Kd.pair (Kd.int .i64) (Kd.int .i64))))))))) (fun x : S28 => (x.f0, x.f1, x.f2, x.f3, x.f4, x.f5, x.f6, x.f7, x.f8))
def ok28 (x : S28) : Prop := ((fun x => (Lit.int .i64 x).wf = true) x.f0) ∧ ((fun _ => True) x.f1) ∧ ((fun x => (Lit.int .i64 x).wf = true) x.f2) ∧ ((fun _ => True) x.f3) ∧ ((fun _ => True) x.f4) ∧ ((fun _ => True) x.f5) ∧ ((fun _ => True) x.f6) ∧ ((fun x => (Lit.int .i64 x).wf = true) x.f7) ∧ ((fun x => (Lit.int .i64 x).wf = true) x.f8)
def bk28 (x : S28) : Nat := 1 + 1 + 1 + 1 + 1 + 1 + 1 + 1 + 1 + 1
theorem cells28 : ∀ {l : List Value}, l.length = 9 → ∃ c0 c1 c2 c3 c4 c5 c6 c7 c8, l = [c0, c1, c2, c3, c4, c5, c6, c7, c8]
  | [c0, c1, c2, c3, c4, c5, c6, c7, c8], _ => ⟨c0, c1, c2, c3, c4, c5, c6, c7, c8, rfl⟩
theorem opens28 {H : Type} (enc : TypeId × Value → H) (W : World) (base : Nat) (spare : Nat → Bool) (held : Bool) : Opens enc Try.prog W base spare held 28 k28 ok28 bk28 := by
  intro fuel cs y h
  obtain ⟨xs, n, rfl, rfl, hl, hx, hf⟩ := DataW.trod_struct Try.underlying28 h
  obtain ⟨c0, c1, c2, c3, c4, c5, c6, c7, c8, rfl⟩ := cells28 (hl.trans (by kernel_rfl))
  obtain ⟨y0, e0⟩ : ∃ y, xs[0]? = some y := ⟨_, List.getElem?_eq_getElem (by rw [hx]; decide)⟩
  have g0 : DataW.trod enc Try.prog W base spare held n 3 (([c0, c1, c2, c3, c4, c5, c6, c7, c8].drop 0).take (Try.prog.cellsOf 3)) = xs[0]? := hf 0 _ rfl
  rw [e0, show Try.prog.cellsOf 3 = 1 by kernel_rfl] at g0
  obtain ⟨x0, k0', o0, b0⟩ := (opens_int enc Try.prog W base spare held Try.underlying3) _ [c0] y0 g0
  obtain ⟨y1, e1⟩ : ∃ y, xs[1]? = some y := ⟨_, List.getElem?_eq_getElem (by rw [hx]; decide)⟩
  have g1 : DataW.trod enc Try.prog W base spare held n 4 (([c0, c1, c2, c3, c4, c5, c6, c7, c8].drop 1).take (Try.prog.cellsOf 4)) = xs[1]? := hf 1 _ rfl
  rw [e1, show Try.prog.cellsOf 4 = 1 by kernel_rfl] at g1
  obtain ⟨x1, k1', o1, b1⟩ := (opens_bool enc Try.prog W base spare held Try.underlying4) _ [c1] y1 g1
  obtain ⟨y2, e2⟩ : ∃ y, xs[2]? = some y := ⟨_, List.getElem?_eq_getElem (by rw [hx]; decide)⟩
  have g2 : DataW.trod enc Try.prog W base spare held n 3 (([c0, c1, c2, c3, c4, c5, c6, c7, c8].drop 2).take (Try.prog.cellsOf 3)) = xs[2]? := hf 2 _ rfl
  rw [e2, show Try.prog.cellsOf 3 = 1 by kernel_rfl] at g2
  obtain ⟨x2, k2', o2, b2⟩ := (opens_int enc Try.prog W base spare held Try.underlying3) _ [c2] y2 g2
  obtain ⟨y3, e3⟩ : ∃ y, xs[3]? = some y := ⟨_, List.getElem?_eq_getElem (by rw [hx]; decide)⟩
  have g3 : DataW.trod enc Try.prog W base spare held n 4 (([c0, c1, c2, c3, c4, c5, c6, c7, c8].drop 3).take (Try.prog.cellsOf 4)) = xs[3]? := hf 3 _ rfl
  rw [e3, show Try.prog.cellsOf 4 = 1 by kernel_rfl] at g3
  obtain ⟨x3, k3', o3, b3⟩ := (opens_bool enc Try.prog W base spare held Try.underlying4) _ [c3] y3 g3
  obtain ⟨y4, e4⟩ : ∃ y, xs[4]? = some y := ⟨_, List.getElem?_eq_getElem (by rw [hx]; decide)⟩
  have g4 : DataW.trod enc Try.prog W base spare held n 4 (([c0, c1, c2, c3, c4, c5, c6, c7, c8].drop 4).take (Try.prog.cellsOf 4)) = xs[4]? := hf 4 _ rfl
  rw [e4, show Try.prog.cellsOf 4 = 1 by kernel_rfl] at g4
  obtain ⟨x4, k4', o4, b4⟩ := (opens_bool enc Try.prog W base spare held Try.underlying4) _ [c4] y4 g4
  obtain ⟨y5, e5⟩ : ∃ y, xs[5]? = some y := ⟨_, List.getElem?_eq_getElem (by rw [hx]; decide)⟩
  have g5 : DataW.trod enc Try.prog W base spare held n 4 (([c0, c1, c2, c3, c4, c5, c6, c7, c8].drop 5).take (Try.prog.cellsOf 4)) = xs[5]? := hf 5 _ rfl
  rw [e5, show Try.prog.cellsOf 4 = 1 by kernel_rfl] at g5
  obtain ⟨x5, k5', o5, b5⟩ := (opens_bool enc Try.prog W base spare held Try.underlying4) _ [c5] y5 g5
  obtain ⟨y6, e6⟩ : ∃ y, xs[6]? = some y := ⟨_, List.getElem?_eq_getElem (by rw [hx]; decide)⟩
  have g6 : DataW.trod enc Try.prog W base spare held n 4 (([c0, c1, c2, c3, c4, c5, c6, c7, c8].drop 6).take (Try.prog.cellsOf 4)) = xs[6]? := hf 6 _ rfl
  rw [e6, show Try.prog.cellsOf 4 = 1 by kernel_rfl] at g6
  obtain ⟨x6, k6', o6, b6⟩ := (opens_bool enc Try.prog W base spare held Try.underlying4) _ [c6] y6 g6
  obtain ⟨y7, e7⟩ : ∃ y, xs[7]? = some y := ⟨_, List.getElem?_eq_getElem (by rw [hx]; decide)⟩
  have g7 : DataW.trod enc Try.prog W base spare held n 3 (([c0, c1, c2, c3, c4, c5, c6, c7, c8].drop 7).take (Try.prog.cellsOf 3)) = xs[7]? := hf 7 _ rfl
  rw [e7, show Try.prog.cellsOf 3 = 1 by kernel_rfl] at g7
  obtain ⟨x7, k7', o7, b7⟩ := (opens_int enc Try.prog W base spare held Try.underlying3) _ [c7] y7 g7
  obtain ⟨y8, e8⟩ : ∃ y, xs[8]? = some y := ⟨_, List.getElem?_eq_getElem (by rw [hx]; decide)⟩
  have g8 : DataW.trod enc Try.prog W base spare held n 3 (([c0, c1, c2, c3, c4, c5, c6, c7, c8].drop 8).take (Try.prog.cellsOf 3)) = xs[8]? := hf 8 _ rfl
  rw [e8, show Try.prog.cellsOf 3 = 1 by kernel_rfl] at g8
  obtain ⟨x8, k8', o8, b8⟩ := (opens_int enc Try.prog W base spare held Try.underlying3) _ [c8] y8 g8
  obtain rfl : xs = [y0, y1, y2, y3, y4, y5, y6, y7, y8] := by
    apply List.ext_getElem?
    intro i
    have hx' : xs.length = 9 := hx
    match i with
    | 0 => exact e0
    | 1 => exact e1
    | 2 => exact e2
    | 3 => exact e3
    | 4 => exact e4
    | 5 => exact e5
    | 6 => exact e6
    | 7 => exact e7
    | 8 => exact e8
    | i + 9 => rw [List.getElem?_eq_none (by omega), List.getElem?_eq_none (by simp)]
  have b0' : 1 ≤ Rows.uptoBulk y0.1 := b0
  have b1' : 1 ≤ Rows.uptoBulk y1.1 := b1
  have b2' : 1 ≤ Rows.uptoBulk y2.1 := b2
  have b3' : 1 ≤ Rows.uptoBulk y3.1 := b3
  have b4' : 1 ≤ Rows.uptoBulk y4.1 := b4
  have b5' : 1 ≤ Rows.uptoBulk y5.1 := b5
  have b6' : 1 ≤ Rows.uptoBulk y6.1 := b6
  have b7' : 1 ≤ Rows.uptoBulk y7.1 := b7
  have b8' : 1 ≤ Rows.uptoBulk y8.1 := b8
  refine ⟨⟨x0, x1, x2, x3, x4, x5, x6, x7, x8⟩, ⟨[c0], _, rfl, k0', ⟨[c1], _, rfl, k1', ⟨[c2], _, rfl, k2', ⟨[c3], _, rfl, k3', ⟨[c4], _, rfl, k4', ⟨[c5], _, rfl, k5', ⟨[c6], _, rfl, k6', ⟨[c7], _, rfl, k7', k8'⟩⟩⟩⟩⟩⟩⟩⟩, ⟨o0, o1, o2, o3, o4, o5, o6, o7, o8⟩, ?_⟩
  simp only [bk28, List.map_cons, List.map_nil, Rows.uptoBulk, Rows.uptoBulkAll]
  skip
  omega
def ok124 (x : S124) : Prop := ((fun s => s.size ≤ maxLen) x.f0) ∧ ((fun x => (Lit.int .i64 x).wf = true) x.f1) ∧ ((fun x => (Lit.int .i64 x).wf = true) x.f2)
def bk124 (x : S124) : Nat := (x.f0.size + 1) + 1 + 1 + 1
theorem cells124 : ∀ {l : List Value}, l.length = 3 → ∃ c0 c1 c2, l = [c0, c1, c2]
  | [c0, c1, c2], _ => ⟨c0, c1, c2, rfl⟩
theorem opens124 {H : Type} (enc : TypeId × Value → H) (W : World) (base : Nat) (spare : Nat → Bool) (held : Bool) : Opens enc Try.prog W base spare held 124 k124 ok124 bk124 := by
  intro fuel cs y h
  obtain ⟨xs, n, rfl, rfl, hl, hx, hf⟩ := DataW.trod_struct Try.underlying124 h
  obtain ⟨c0, c1, c2, rfl⟩ := cells124 (hl.trans (by kernel_rfl))
  obtain ⟨y0, e0⟩ : ∃ y, xs[0]? = some y := ⟨_, List.getElem?_eq_getElem (by rw [hx]; decide)⟩
  have g0 : DataW.trod enc Try.prog W base spare held n 9 (([c0, c1, c2].drop 0).take (Try.prog.cellsOf 9)) = xs[0]? := hf 0 _ rfl
  rw [e0, show Try.prog.cellsOf 9 = 1 by kernel_rfl] at g0
  obtain ⟨x0, k0', o0, b0⟩ := (opens_string enc Try.prog W base spare held Try.underlying9) _ [c0] y0 g0
  obtain ⟨y1, e1⟩ : ∃ y, xs[1]? = some y := ⟨_, List.getElem?_eq_getElem (by rw [hx]; decide)⟩
  have g1 : DataW.trod enc Try.prog W base spare held n 3 (([c0, c1, c2].drop 1).take (Try.prog.cellsOf 3)) = xs[1]? := hf 1 _ rfl
  rw [e1, show Try.prog.cellsOf 3 = 1 by kernel_rfl] at g1
  obtain ⟨x1, k1', o1, b1⟩ := (opens_int enc Try.prog W base spare held Try.underlying3) _ [c1] y1 g1
  obtain ⟨y2, e2⟩ : ∃ y, xs[2]? = some y := ⟨_, List.getElem?_eq_getElem (by rw [hx]; decide)⟩
  have g2 : DataW.trod enc Try.prog W base spare held n 3 (([c0, c1, c2].drop 2).take (Try.prog.cellsOf 3)) = xs[2]? := hf 2 _ rfl
  rw [e2, show Try.prog.cellsOf 3 = 1 by kernel_rfl] at g2
  obtain ⟨x2, k2', o2, b2⟩ := (opens_int enc Try.prog W base spare held Try.underlying3) _ [c2] y2 g2
  obtain rfl : xs = [y0, y1, y2] := by
    apply List.ext_getElem?
    intro i
    have hx' : xs.length = 3 := hx
    match i with
    | 0 => exact e0
    | 1 => exact e1
    | 2 => exact e2
    | i + 3 => rw [List.getElem?_eq_none (by omega), List.getElem?_eq_none (by simp)]
  have b0' : (x0.size + 1) ≤ Rows.uptoBulk y0.1 := b0
  have b1' : 1 ≤ Rows.uptoBulk y1.1 := b1
  have b2' : 1 ≤ Rows.uptoBulk y2.1 := b2
  refine ⟨⟨x0, x1, x2⟩, ⟨[c0], _, rfl, k0', ⟨[c1], _, rfl, k1', k2'⟩⟩, ⟨o0, o1, o2⟩, ?_⟩
  simp only [bk124, List.map_cons, List.map_nil, Rows.uptoBulk, Rows.uptoBulkAll]
  skip
  omega
structure S32 where
  f0 : S28
  f1 : List (S124)
  f2 : List (S26)
  f3 : List (S26)
  f4 : List (S26)
def k32 : Kd S32 := Kd.iso (Kd.pair k28 (Kd.pair (Kd.slice 124 k124) (Kd.pair (Kd.slice 26 k26) (Kd.pair (Kd.slice 26 k26) (Kd.slice 26 k26))))) (fun x : S32 => (x.f0, x.f1, x.f2, x.f3, x.f4))
def ok32 (x : S32) : Prop := (ok28 x.f0) ∧ ((fun xs => ∀ x ∈ xs, ok124 x) x.f1) ∧ ((fun xs => ∀ x ∈ xs, ok26 x) x.f2) ∧ ((fun xs => ∀ x ∈ xs, ok26 x) x.f3) ∧ ((fun xs => ∀ x ∈ xs, ok26 x) x.f4)
def bk32 (x : S32) : Nat := bk28 x.f0 + bks bk124 x.f1 + bks bk26 x.f2 + bks bk26 x.f3 + bks bk26 x.f4 + 1
theorem cells32 : ∀ {l : List Value}, l.length = 13 → ∃ c0 c1 c2 c3 c4 c5 c6 c7 c8 c9 c10 c11 c12, l = [c0, c1, c2, c3, c4, c5, c6, c7, c8, c9, c10, c11, c12]
  | [c0, c1, c2, c3, c4, c5, c6, c7, c8, c9, c10, c11, c12], _ => ⟨c0, c1, c2, c3, c4, c5, c6, c7, c8, c9, c10, c11, c12, rfl⟩
theorem opens32 {H : Type} (enc : TypeId × Value → H) (W : World) (base : Nat) (spare : Nat → Bool) (held : Bool) : Opens enc Try.prog W base spare held 32 k32 ok32 bk32 := by
  intro fuel cs y h
  obtain ⟨xs, n, rfl, rfl, hl, hx, hf⟩ := DataW.trod_struct Try.underlying32 h
  obtain ⟨c0, c1, c2, c3, c4, c5, c6, c7, c8, c9, c10, c11, c12, rfl⟩ := cells32 (hl.trans (by kernel_rfl))
  obtain ⟨y0, e0⟩ : ∃ y, xs[0]? = some y := ⟨_, List.getElem?_eq_getElem (by rw [hx]; decide)⟩
  have g0 : DataW.trod enc Try.prog W base spare held n 28 (([c0, c1, c2, c3, c4, c5, c6, c7, c8, c9, c10, c11, c12].drop 0).take (Try.prog.cellsOf 28)) = xs[0]? := hf 0 _ rfl
  rw [e0, show Try.prog.cellsOf 28 = 9 by kernel_rfl] at g0
  obtain ⟨x0, k0', o0, b0⟩ := (opens28 enc W base spare held) _ [c0, c1, c2, c3, c4, c5, c6, c7, c8] y0 g0
  obtain ⟨y1, e1⟩ : ∃ y, xs[1]? = some y := ⟨_, List.getElem?_eq_getElem (by rw [hx]; decide)⟩
  have g1 : DataW.trod enc Try.prog W base spare held n 29 (([c0, c1, c2, c3, c4, c5, c6, c7, c8, c9, c10, c11, c12].drop 9).take (Try.prog.cellsOf 29)) = xs[1]? := hf 1 _ rfl
  rw [e1, show Try.prog.cellsOf 29 = 1 by kernel_rfl] at g1
  obtain ⟨x1, k1', o1, b1⟩ := (opens_slice enc Try.prog W base spare held Try.underlying29 (by kernel_rfl) (opens124 enc W base spare held)) _ [c9] y1 g1
  obtain ⟨y2, e2⟩ : ∃ y, xs[2]? = some y := ⟨_, List.getElem?_eq_getElem (by rw [hx]; decide)⟩
  have g2 : DataW.trod enc Try.prog W base spare held n 30 (([c0, c1, c2, c3, c4, c5, c6, c7, c8, c9, c10, c11, c12].drop 10).take (Try.prog.cellsOf 30)) = xs[2]? := hf 2 _ rfl
  rw [e2, show Try.prog.cellsOf 30 = 1 by kernel_rfl] at g2
  obtain ⟨x2, k2', o2, b2⟩ := (opens_slice enc Try.prog W base spare held Try.underlying30 (by kernel_rfl) (opens26 enc W base spare held)) _ [c10] y2 g2
  obtain ⟨y3, e3⟩ : ∃ y, xs[3]? = some y := ⟨_, List.getElem?_eq_getElem (by rw [hx]; decide)⟩
  have g3 : DataW.trod enc Try.prog W base spare held n 30 (([c0, c1, c2, c3, c4, c5, c6, c7, c8, c9, c10, c11, c12].drop 11).take (Try.prog.cellsOf 30)) = xs[3]? := hf 3 _ rfl
  rw [e3, show Try.prog.cellsOf 30 = 1 by kernel_rfl] at g3
  obtain ⟨x3, k3', o3, b3⟩ := (opens_slice enc Try.prog W base spare held Try.underlying30 (by kernel_rfl) (opens26 enc W base spare held)) _ [c11] y3 g3
  obtain ⟨y4, e4⟩ : ∃ y, xs[4]? = some y := ⟨_, List.getElem?_eq_getElem (by rw [hx]; decide)⟩
  have g4 : DataW.trod enc Try.prog W base spare held n 30 (([c0, c1, c2, c3, c4, c5, c6, c7, c8, c9, c10, c11, c12].drop 12).take (Try.prog.cellsOf 30)) = xs[4]? := hf 4 _ rfl
  rw [e4, show Try.prog.cellsOf 30 = 1 by kernel_rfl] at g4
  obtain ⟨x4, k4', o4, b4⟩ := (opens_slice enc Try.prog W base spare held Try.underlying30 (by kernel_rfl) (opens26 enc W base spare held)) _ [c12] y4 g4
  obtain rfl : xs = [y0, y1, y2, y3, y4] := by
    apply List.ext_getElem?
    intro i
    have hx' : xs.length = 5 := hx
    match i with
    | 0 => exact e0
    | 1 => exact e1
    | 2 => exact e2
    | 3 => exact e3
    | 4 => exact e4
    | i + 5 => rw [List.getElem?_eq_none (by omega), List.getElem?_eq_none (by simp)]
  have b0' : bk28 x0 ≤ Rows.uptoBulk y0.1 := b0
  have b1' : bks bk124 x1 ≤ Rows.uptoBulk y1.1 := b1
  have b2' : bks bk26 x2 ≤ Rows.uptoBulk y2.1 := b2
  have b3' : bks bk26 x3 ≤ Rows.uptoBulk y3.1 := b3
  have b4' : bks bk26 x4 ≤ Rows.uptoBulk y4.1 := b4
  refine ⟨⟨x0, x1, x2, x3, x4⟩, ⟨[c0, c1, c2, c3, c4, c5, c6, c7, c8], _, rfl, k0', ⟨[c9], _, rfl, k1', ⟨[c10], _, rfl, k2', ⟨[c11], _, rfl, k3', k4'⟩⟩⟩⟩, ⟨o0, o1, o2, o3, o4⟩, ?_⟩
  simp only [bk32, List.map_cons, List.map_nil, Rows.uptoBulk, Rows.uptoBulkAll]
  skip
  omega
end Go.Proofs.Ytndcjleadggibaa.OkOz

namespace Go.Proofs.Ytndcjleadggibaa.POz
open Go.RowKit Go.Proofs.YtndcjleadggibaaW.PrintWords Go.Proofs.YtndcjleadggibaaW.PrintLast Go.Proofs.YtndcjleadggibaaW.PrintMore
attribute [local go_sem] max2_int min2_int max_two min_two max_three min_three max_four min_four   -- for this text's walks alone
set_option linter.unusedVariables false
set_option linter.unusedSimpArgs false

/-! ### wimplelaw0_CopyOptions: function 45 -/
def wimplelaw0_CopyOptions.f (l0 : List (S52)) : Option ((List (S52))) := (some (([] : List (S52)) : List (S52))).bind fun y101 => (if y101.length + l0.length < 5864062014805 then (some (y101 ++ l0)) else (none))
set_option maxHeartbeats 8000000 in
set_option maxRecDepth 100000 in
theorem wimplelaw0_CopyOptions.calls (A0 : Option Addr) (c0 : Nat) (l0 : List (S52)) (r : List (S52)) (w : World) (hr0 : Kd.C k52 w A0 l0.length l0) (hc0 : l0.length ≤ c0) (h : wimplelaw0_CopyOptions.f l0 = some r) :
    Calls Try.prog 45 #[.slice A0 l0.length c0] w fun e w' => ∃ v0_ : Value, e = .returned (v0_) ∧ Kd.R k52 52 w' w.heap.size (fun _ => True) v0_ r ∧ Below w.heap.size w w' := by
  have HR0 := Aside0.mk hr0
  have HC0 := Aside0.mk hc0
  clear hr0 hc0
  have HB := Aside0.mk (Below.refl w.heap.size w)
  have H : ((some (([] : List (S52)) : List (S52))).bind fun y101 => (if y101.length + l0.length < 5864062014805 then (some (y101 ++ l0)) else (none))) = some r := h
  clear h
  obtain ⟨y101, hy101⟩ : ∃ y_ : List (S52), y_ = (([] : List (S52))) := ⟨_, rfl⟩
  replace H : (if y101.length + l0.length < 5864062014805 then (some (y101 ++ l0)) else (none)) = some r := by first | (rw [hy101]; with_reducible exact H) | (have H2_ := (Option.bind_some _ _).symm.trans H; rw [hy101]; with_reducible exact H2_) | (have H2_ := (Option.bind_some _ _).symm.trans H; with_reducible exact H2_) | with_reducible exact H | (rw [hy101]; exact H) | exact H
  have Ny101 := Aside0.mk hy101
  clear hy101
  by_cases c2 : y101.length + l0.length < 5864062014805
  · rw [if_pos c2] at H
    have LMc2 := Aside0.mk c2
    clear c2
    obtain ⟨y104, hy104⟩ : ∃ y_ : List (S52), y_ = (y101 ++ l0) := ⟨_, rfl⟩
    replace H : (some y104) = some r := by first | (rw [hy104]; with_reducible exact H) | (have H2_ := (Option.bind_some _ _).symm.trans H; rw [hy104]; with_reducible exact H2_) | (have H2_ := (Option.bind_some _ _).symm.trans H; with_reducible exact H2_) | with_reducible exact H | (rw [hy104]; exact H) | exact H
    have Ny104 := Aside0.mk hy104
    clear hy104
    obtain rfl := Option.some.inj H
    go_enter Try.func45, Try.ntmps45
    go_wp2_with (first | ((with_reducible refine gate_dst (N := 3) rfl ?_); refine Kd.R_lit k52 _ 52 ?hg (N := 3) ?hd (xs := ([] : List (S52))) (inner := []) (ok := fun _ => True) (okp := fun _ => True) ?hr ?hp (fun _ hk => hk) trivial (Below.refl _ _) (Nat.le_refl _) (by simp) ?_; (case hd => rfl); (case hg => rfl); (case hr => first | (go_simp; done) | (go_simp; rfl)); (case hp => exact (Reps.none _ _)); intro v102 w3 ho4 hb hg_ hnew_; clear hg_ hnew_; (first | rw [← Ny101.out] at ho4 | (simp only [Int.reduceToNat] at ho4; rw [← Ny101.out] at ho4)); have n0_ := Aside0.mk (Kd.R_lower ho4 (below_size (by repeat (first | (with_reducible first | exact HB.out | apply below_alloc | apply pw_below_drewN | apply below_drew1) | exact HB.out)))); have n1_ := Aside0.mk (below_step (by repeat (first | (with_reducible first | exact HB.out | apply below_alloc | apply pw_below_drewN | apply below_drew1) | exact HB.out)) hb); clear HB; have HO103 := n0_; have HB := n1_; clear n0_ n1_; clear hb ho4) | ((with_reducible refine gate_builtin (b := .append) (xs := #[.tmp 3, .tmp 4]) rfl ?_); at_builtin; refine Kd.R_append_rows k52 (w0 := w) w.heap.size rfl (.tmp 3) (.tmp 4) 22 52 (.agg #[(.int .i64 0), (.string ⟨#[]⟩)]) 24 rfl Try.underlying22 info52 rfl (by decide) (by omega) v102 y101 l0 _ _ _ (fun _ => True) (fun _ => False) rfl rfl ?aO ?aR (fun _ _ h => h) (fun _ h => h.elim) ?aF ?aB ?aS ?aL ?_; (case aR => repeat (first | exact (Kd.C_below HR0.out HB.out) | (with_reducible refine Kd.C_alloc ?_ _) | (with_reducible refine Kd.C_drewN ?_ _) | (with_reducible refine Kd.C_drew ?_))); (case aB => exact (by repeat (first | (with_reducible first | exact HB.out | apply below_alloc | apply pw_below_drewN | apply below_drew1) | exact HB.out))); (case aF => exact (fun _ _ => trivial)); (case aO => exact (by (with_reducible repeat (first | apply Kd.R_alloc | apply Kd.R_drewN | apply Kd.R_drew)); exact HO103.out)); (case aS => exact (below_size (by repeat (first | (with_reducible first | exact HB.out | apply below_alloc | apply pw_below_drewN | apply below_drew1) | exact HB.out)))); (case aL => have := LMc2.out; omega); intro v105 w5 ho hb hg hat; rw [← Ny104.out] at ho; have n0_ := Aside0.mk (hb); have n1_ := Aside0.mk (ho); clear HB; clear HO103; have HB := n0_; have HO106 := n1_; clear n0_ n1_; clear ho hb hg hat))
    go_ret
    exact ⟨_, by first | rfl | (simp [errW_none, errW_some] <;> rfl) | (simp [*, errW_none, errW_some] <;> rfl), by (with_reducible repeat (first | apply Kd.R_alloc | apply Kd.R_drewN | apply Kd.R_drew)); exact HO106.out, by repeat (first | (with_reducible first | exact HB.out | apply below_alloc | apply pw_below_drewN | apply below_drew1) | exact HB.out)⟩
  · rw [if_neg c2] at H
    exact absurd H (by simp)

/-! ### wimplelaw0_LendOptions: function 13 -/
def wimplelaw0_LendOptions.f (l0 : List (S52)) : Option ((List (S52))) := (wimplelaw0_CopyOptions.f l0).bind fun t107 => ((some (([(⟨77777, (⟨#[]⟩ : ByteArray)⟩ : S52), (⟨77777, (⟨#[]⟩ : ByteArray)⟩ : S52)] : List (S52)) : List (S52))).bind fun y110 => (if t107.length + y110.length < 5864062014805 then ((some (t107 ++ y110 : List (S52))).bind fun y113 => (if 0 ≤ (l0.length : Int) then (if (l0.length : Int) ≤ (y113.length : Int) then (some (y113.take ((l0.length : Int) : Int).toNat)) else (none)) else (none))) else (none)))
/-! ### opt_in: function 46 -/
def opt_in.f (a0 : Int) (a1 : Int) : Option (Bool) := if a0 ≥ 0 then (some (decide (a0 ≤ a1))) else (some false)
set_option maxHeartbeats 8000000 in
set_option maxRecDepth 100000 in
theorem opt_in.calls (a0 : Int) (a1 : Int) (r : Bool) (w : World) (h : opt_in.f a0 a1 = some r) :
    Calls Try.prog 46 #[.int .i64 a0, .int .i64 a1] w fun e w' => e = .returned (.bool r) ∧ Drawn0 w w' := by
  have H : (if a0 ≥ 0 then (some (decide (a0 ≤ a1))) else (some false)) = some r := h
  clear h
  by_cases c3 : a0 ≥ 0
  · rw [if_pos c3] at H
    have c3b0 : decide (0 ≤ a0) = true := decide_eq_true c3
    clear c3
    obtain rfl := Option.some.inj H
    go_enter Try.func46, Try.ntmps46
    go_wp2
    go_ret
    exact ⟨by first | rfl | (simp; done) | (simp [*]; done), by repeat (first | exact Drawn0.refl _ | apply Drawn0.step)⟩
  · rw [if_neg c3] at H
    have c3b0 : decide (0 ≤ a0) = false := decide_eq_false c3
    clear c3
    obtain rfl := Option.some.inj H
    go_enter Try.func46, Try.ntmps46
    go_wp2
    go_ret
    exact ⟨by first | rfl | (simp; done) | (simp [*]; done), by repeat (first | exact Drawn0.refl _ | apply Drawn0.step)⟩

/-! ### octet_Put16: function 47 -/
def octet_Put16.f (a0 : Int) : Option (ByteArray) := some (strOfNums (([(a0 / 256) % 256, (a0) % 256] : List Int)))
set_option maxHeartbeats 8000000 in
set_option maxRecDepth 100000 in
theorem octet_Put16.calls (a0 : Int) (r : ByteArray) (w : World) (h : octet_Put16.f a0 = some r) :
    Calls Try.prog 47 #[.int .i64 a0] w fun e w' => e = .returned (.string r) ∧ Below w.heap.size w w' := by
  have HB := Aside0.mk (Below.refl w.heap.size w)
  have H : (some (strOfNums (([(a0 / 256) % 256, (a0) % 256] : List Int)))) = some r := h
  clear h
  obtain ⟨y119, hy119⟩ : ∃ y_ : List Int, y_ = (([(a0 / 256) % 256, (a0) % 256] : List Int)) := ⟨_, rfl⟩
  replace H : (some (strOfNums y119)) = some r := by first | (rw [hy119]; with_reducible exact H) | (have H2_ := (Option.bind_some _ _).symm.trans H; rw [hy119]; with_reducible exact H2_) | (have H2_ := (Option.bind_some _ _).symm.trans H; with_reducible exact H2_) | with_reducible exact H | (rw [hy119]; exact H) | exact H
  have Ny119 := Aside0.mk hy119
  clear hy119
  obtain rfl := Option.some.inj H
  go_enter Try.func47, Try.ntmps47
  go_wp2_with (first | ((with_reducible refine gate_dst (N := 8) rfl ?_); refine Kd.R_lit (Kd.int .u8) _ 5 ?hg (N := 8) ?hd (xs := ([(a0 / 256) % 256, (a0) % 256] : List Int)) (inner := [.int .u8 ((a0 / 256) % 256), .int .u8 ((a0) % 256)]) (ok := fun _ => True) (okp := fun _ => True) ?hr ?hp (fun _ hk => hk) trivial (Below.refl _ _) (Nat.le_refl _) (by simp) ?_; (case hd => rfl); (case hg => rfl); (case hr => first | (go_simp; done) | (go_simp; rfl)); (case hp => exact (Reps.one (show Kd.M (Kd.int .u8) _ _ _ ((a0 / 256) % 256) [.int .u8 ((a0 / 256) % 256)] from rfl) (Reps.one (show Kd.M (Kd.int .u8) _ _ _ ((a0) % 256) [.int .u8 ((a0) % 256)] from rfl) (Reps.none _ _)))); intro v120 w2 ho3 hb hg_ hnew_; clear hg_ hnew_; (first | rw [← Ny119.out] at ho3 | (simp only [Int.reduceToNat] at ho3; rw [← Ny119.out] at ho3)); have n0_ := Aside0.mk (Kd.R_lower ho3 (below_size (by repeat (first | (with_reducible first | exact HB.out | apply below_alloc | apply pw_below_drewN | apply below_drew1) | exact HB.out)))); have n1_ := Aside0.mk (below_step (by repeat (first | (with_reducible first | exact HB.out | apply below_alloc | apply pw_below_drewN | apply below_drew1) | exact HB.out)) hb); clear HB; have HO121 := n0_; have HB := n1_; clear n0_ n1_; clear hb ho3; have hcv4 := own_string (P := Try.prog) Try.underlying54 Try.underlying5 Try.underlying9 (Kd.own_of_R HO121.out)))
  go_ret
  exact ⟨by first | rfl | (simp [errW_none, errW_some] <;> rfl) | (simp [*, errW_none, errW_some] <;> rfl), by repeat (first | (with_reducible first | exact HB.out | apply below_alloc | apply pw_below_drewN | apply below_drew1) | exact HB.out)⟩

end Go.Proofs.Ytndcjleadggibaa.POz

namespace Go.Proofs.Ytndcjleadggibaa.LendO
open Go.RowKit Go.Proofs.YtndcjleadggibaaW.PrintWords Go.Proofs.YtndcjleadggibaaW.PrintLast Go.Proofs.YtndcjleadggibaaW.PrintMore
set_option linter.unusedVariables false
set_option linter.unusedSimpArgs false
open Go.Proofs.Ytndcjleadggibaa.POz
def Lent (w w' : World) (l0 r : List (S52)) (e : Ending) : Prop := ∃ (Af : Option Addr) (cf : Nat) (t full : List (S52)), e = .returned (.slice Af r.length cf) ∧ wimplelaw0_CopyOptions.f l0 = some t ∧ full = t ++ ([(⟨77777, (⟨#[]⟩ : ByteArray)⟩ : S52), (⟨77777, (⟨#[]⟩ : ByteArray)⟩ : S52)] : List (S52)) ∧ Kd.R k52 52 w' w.heap.size (fun _ => True) (.slice Af full.length cf) full ∧ Below w.heap.size w w'
set_option maxHeartbeats 8000000 in
set_option maxRecDepth 100000 in
theorem lendc (A0 : Option Addr) (c0 : Nat) (l0 : List (S52)) (r : List (S52)) (w : World) (hr0 : Kd.C k52 w A0 l0.length l0) (hc0 : l0.length ≤ c0) (h : wimplelaw0_LendOptions.f l0 = some r) :
    Calls Try.prog 13 #[.slice A0 l0.length c0] w fun e w' => Lent w w' l0 r e := by
  have hu52 := Try.underlying52
  have HR0 := Aside0.mk hr0
  have HC0 := Aside0.mk hc0
  clear hr0 hc0
  have HB := Aside0.mk (Below.refl w.heap.size w)
  have H : ((wimplelaw0_CopyOptions.f l0).bind fun t107 => ((some (([(⟨77777, (⟨#[]⟩ : ByteArray)⟩ : S52), (⟨77777, (⟨#[]⟩ : ByteArray)⟩ : S52)] : List (S52)) : List (S52))).bind fun y110 => (if t107.length + y110.length < 5864062014805 then ((some (t107 ++ y110 : List (S52))).bind fun y113 => (if 0 ≤ (l0.length : Int) then (if (l0.length : Int) ≤ (y113.length : Int) then (some (y113.take ((l0.length : Int) : Int).toNat)) else (none)) else (none))) else (none)))) = some r := h
  clear h
  replace H := Option.bind_eq_some_iff.mp H
  obtain ⟨t107, A20, H⟩ := H
  replace H : ((some (([(⟨77777, (⟨#[]⟩ : ByteArray)⟩ : S52), (⟨77777, (⟨#[]⟩ : ByteArray)⟩ : S52)] : List (S52)) : List (S52))).bind fun y110 => (if t107.length + y110.length < 5864062014805 then ((some (t107 ++ y110 : List (S52))).bind fun y113 => (if 0 ≤ (l0.length : Int) then (if (l0.length : Int) ≤ (y113.length : Int) then (some (y113.take ((l0.length : Int) : Int).toNat)) else (none)) else (none))) else (none))) = some r := H
  have A2 := Aside0.mk A20
  clear A20
  obtain ⟨y110, hy110⟩ : ∃ y_ : List (S52), y_ = (([(⟨77777, (⟨#[]⟩ : ByteArray)⟩ : S52), (⟨77777, (⟨#[]⟩ : ByteArray)⟩ : S52)] : List (S52))) := ⟨_, rfl⟩
  replace H : (if t107.length + y110.length < 5864062014805 then ((some (t107 ++ y110 : List (S52))).bind fun y113 => (if 0 ≤ (l0.length : Int) then (if (l0.length : Int) ≤ (y113.length : Int) then (some (y113.take ((l0.length : Int) : Int).toNat)) else (none)) else (none))) else (none)) = some r := by first | (rw [hy110]; with_reducible exact H) | (have H2_ := (Option.bind_some _ _).symm.trans H; rw [hy110]; with_reducible exact H2_) | (have H2_ := (Option.bind_some _ _).symm.trans H; with_reducible exact H2_) | with_reducible exact H | (rw [hy110]; exact H) | exact H
  have Ny110 := Aside0.mk hy110
  clear hy110
  by_cases c3 : t107.length + y110.length < 5864062014805
  · rw [if_pos c3] at H
    have LMc3 := Aside0.mk c3
    clear c3
    obtain ⟨y113, hy113⟩ : ∃ y_ : List (S52), y_ = (t107 ++ y110) := ⟨_, rfl⟩
    replace H : (if 0 ≤ (l0.length : Int) then (if (l0.length : Int) ≤ (y113.length : Int) then (some (y113.take ((l0.length : Int) : Int).toNat)) else (none)) else (none)) = some r := by first | (rw [hy113]; with_reducible exact H) | (have H2_ := (Option.bind_some _ _).symm.trans H; rw [hy113]; with_reducible exact H2_) | (have H2_ := (Option.bind_some _ _).symm.trans H; with_reducible exact H2_) | with_reducible exact H | (rw [hy113]; exact H) | exact H
    have Ny113 := Aside0.mk hy113
    clear hy113
    by_cases c4 : 0 ≤ (l0.length : Int)
    · rw [if_pos c4] at H
      have c4b0 := eq_true c4
      have c4b1 : decide (0 ≤ (l0.length : Int)) = true := decide_eq_true c4
      clear c4
      by_cases c5 : (l0.length : Int) ≤ (y113.length : Int)
      · rw [if_pos c5] at H
        have c5b0 := eq_true c5
        have c5b1 : decide ((l0.length : Int) ≤ (y113.length : Int)) = true := decide_eq_true c5
        clear c5
        obtain ⟨y116, hy116⟩ : ∃ y_ : List (S52), y_ = (y113.take ((l0.length : Int) : Int).toNat) := ⟨_, rfl⟩
        replace H : (some y116) = some r := by first | (rw [hy116]; with_reducible exact H) | (have H2_ := (Option.bind_some _ _).symm.trans H; rw [hy116]; with_reducible exact H2_) | (have H2_ := (Option.bind_some _ _).symm.trans H; with_reducible exact H2_) | with_reducible exact H | (rw [hy116]; exact H) | exact H
        have Ny116 := Aside0.mk hy116
        clear hy116
        obtain rfl := Option.some.inj H
        go_enter Try.func13, Try.ntmps13
        go_wp2_with (first | ((with_reducible refine gate_dst (N := 5) rfl ?_); (with_reducible refine gate_callee (f := 45) rfl ?_); refine goesL_ (some 5) rfl rfl Try.func45 (by kernel_rfl) rfl #[.slice A0 l0.length c0] rfl (by (try simp only [List.map_toArray, List.map_cons, List.map_nil]); first | done | rfl | (simp only [List.length_drop, List.length_take]; rfl)) ?_; (with_reducible refine (wimplelaw0_CopyOptions.calls _ _ l0 t107 _ ?side1 ?side2 A2.out).mono ?_); (case side1 => repeat (first | exact HR0.out | (with_reducible refine Kd.C_alloc ?_ _) | (with_reducible refine Kd.C_drewN ?_ _) | (with_reducible refine Kd.C_drew ?_))); (case side2 => exact HC0.out); rintro e w6 ⟨v108, rfl, ho0, hb⟩; refine ⟨_, rfl, ?_⟩; have n0_ := Aside0.mk (Kd.R_lower ho0 (below_size (by repeat (first | (with_reducible first | exact HB.out | apply below_alloc | apply pw_below_drewN | apply below_drew1) | exact HB.out)))); have n1_ := Aside0.mk (below_step (by repeat (first | (with_reducible first | exact HB.out | apply below_alloc | apply pw_below_drewN | apply below_drew1) | exact HB.out)) hb); clear HB; have HO109 := n0_; have HB := n1_; clear n0_ n1_; (try clear hb); (try clear hb2); (try clear hk); (try clear hi); (try clear ho0)) | ((with_reducible refine gate_dst (N := 8) rfl ?_); refine Kd.R_lit k52 _ 52 ?hg (N := 8) ?hd (xs := ([(⟨77777, (⟨#[]⟩ : ByteArray)⟩ : S52), (⟨77777, (⟨#[]⟩ : ByteArray)⟩ : S52)] : List (S52))) (inner := [.int .i64 77777, .string (⟨#[]⟩ : ByteArray), .int .i64 77777, .string (⟨#[]⟩ : ByteArray)]) (ok := fun _ => True) (okp := fun _ => True) ?hr ?hp (fun _ hk => hk) trivial (Below.refl _ _) (Nat.le_refl _) (by simp) ?_; (case hd => rfl); (case hg => rfl); (case hr => first | (go_simp; done) | (go_simp; rfl)); (case hp => exact (Reps.c2 (show Kd.M k52 _ _ _ (⟨77777, (⟨#[]⟩ : ByteArray)⟩ : S52) [.int .i64 77777, .string (⟨#[]⟩ : ByteArray)] from (k52_mkM _ _ _ (⟨77777, (⟨#[]⟩ : ByteArray)⟩ : S52) )) (Reps.c2 (show Kd.M k52 _ _ _ (⟨77777, (⟨#[]⟩ : ByteArray)⟩ : S52) [.int .i64 77777, .string (⟨#[]⟩ : ByteArray)] from (k52_mkM _ _ _ (⟨77777, (⟨#[]⟩ : ByteArray)⟩ : S52) )) (Reps.none _ _)))); intro v111 w7 ho8 hb hg_ hnew_; clear hg_ hnew_; (first | rw [← Ny110.out] at ho8 | (simp only [Int.reduceToNat] at ho8; rw [← Ny110.out] at ho8)); have n0_ := Aside0.mk (Kd.R_elder' (by (with_reducible repeat (first | apply Kd.R_alloc | apply Kd.R_drewN | apply Kd.R_drew)); exact HO109.out) (Kd.R_base ho8) hb); have n1_ := Aside0.mk (Kd.R_lower (Kd.R_new' ho8 (Kd.R_lt (by (with_reducible repeat (first | apply Kd.R_alloc | apply Kd.R_drewN | apply Kd.R_drew)); exact HO109.out))) (below_size (by repeat (first | (with_reducible first | exact HB.out | apply below_alloc | apply pw_below_drewN | apply below_drew1) | exact HB.out)))); have n2_ := Aside0.mk (below_step (by repeat (first | (with_reducible first | exact HB.out | apply below_alloc | apply pw_below_drewN | apply below_drew1) | exact HB.out)) hb); clear HO109; clear HB; have HO109 := n0_; have HO112 := n1_; have HB := n2_; clear n0_ n1_ n2_; clear hb ho8; obtain ⟨Ao10, co10, eo10⟩ := Kd.R_slice HO112.out; subst eo10) | ((with_reducible refine gate_builtin (b := .append) (xs := #[.tmp 5, .tmp 8]) rfl ?_); at_builtin; refine Kd.R_append_rows k52 (w0 := w) w.heap.size rfl (.tmp 5) (.tmp 8) 22 52 (.agg #[(.int .i64 0), (.string ⟨#[]⟩)]) 24 rfl Try.underlying22 info52 rfl (by decide) (by omega) v108 t107 y110 _ _ _ (fun k_ => some k_ ≠ (.slice Ao10 y110.length co10 : Value).ownBlock) (fun _ => False) rfl rfl ?aO ?aR (fun _ _ h => h) (fun _ h => h.elim) ?aF ?aB ?aS ?aL ?_; (case aR => repeat (first | exact (Kd.R_reads' HO112.out).2.2 | (with_reducible refine Kd.C_alloc ?_ _) | (with_reducible refine Kd.C_drewN ?_ _) | (with_reducible refine Kd.C_drew ?_))); (case aB => exact (by repeat (first | (with_reducible first | exact HB.out | apply below_alloc | apply pw_below_drewN | apply below_drew1) | exact HB.out))); (case aF => exact (fun k_ hk => Kd.fresh' (Kd.R_lt (by (with_reducible repeat (first | apply Kd.R_alloc | apply Kd.R_drewN | apply Kd.R_drew)); exact HO112.out)) k_ hk)); (case aO => exact (by (with_reducible repeat (first | apply Kd.R_alloc | apply Kd.R_drewN | apply Kd.R_drew)); exact Kd.R_mono HO109.out (fun _ hk => hk.2))); (case aS => exact (below_size (by repeat (first | (with_reducible first | exact HB.out | apply below_alloc | apply pw_below_drewN | apply below_drew1) | exact HB.out)))); (case aL => have := LMc3.out; omega); intro v114 w9 ho hb hg hat; rw [← Ny113.out] at ho; have n0_ := Aside0.mk (Kd.R_after (ok := (fun _ => True)) (by (with_reducible repeat (first | apply Kd.R_alloc | apply Kd.R_drewN | apply Kd.R_drew)); exact HO112.out) hg hat); have n1_ := Aside0.mk (hb); have n2_ := Aside0.mk (ho); clear HO112; clear HB; clear HO109; have HO112 := n0_; have HB := n1_; have HO115 := n2_; clear n0_ n1_ n2_; clear ho hb hg hat; obtain ⟨Ao11, co11, eo11⟩ := Kd.R_slice HO115.out; subst eo11; have q12 : ((l0.length : Int) : Int) ≤ ((y113.length : Int) : Int) := of_decide_eq_true (by first | (with_reducible assumption) | assumption); obtain ⟨i012, hi012, _, hsz12, _⟩ := info_parts info52; have hcut12 := cut_to (P := Try.prog) 22 52 .i64 Try.underlying22 hi012 Ao11 y113.length co11 (l0.length : Int) (of_decide_eq_true (by first | (with_reducible assumption) | assumption)) q12 (Kd.R_reads' HO115.out).2.1; have hr12 := Kd.R_take (m := ((l0.length : Int) : Int).toNat) HO115.out (by omega); have hy12 : y116.length = ((l0.length : Int) : Int).toNat := (by rw [Ny116.out, List.length_take]; omega); rw [← Ny116.out] at hr12; rw [← hy12] at hr12 hcut12; clear hy12 hi012 hsz12; have HOF := HO115; clear HO115; have HO118 := Aside0.mk hr12; clear hr12; replace q12 := eq_true q12))
        go_ret
        exact ⟨_, _, _, _, rfl, A2.out, Ny113.out.trans (by rw [Ny110.out]), by (with_reducible repeat (first | apply Kd.R_alloc | apply Kd.R_drewN | apply Kd.R_drew)); exact Kd.R_mono HOF.out (fun _ hk => trivial), by repeat (first | (with_reducible first | exact HB.out | apply below_alloc | apply pw_below_drewN | apply below_drew1) | exact HB.out)⟩
      · rw [if_neg c5] at H
        exact absurd H (by simp)
    · rw [if_neg c4] at H
      exact absurd H (by simp)
  · rw [if_neg c3] at H
    exact absurd H (by simp)
end Go.Proofs.Ytndcjleadggibaa.LendO

namespace Go.Proofs.Ytndcjleadggibaa.Pu
open Go.RowKit Go.Proofs.YtndcjleadggibaaW.PrintWords
set_option linter.unusedVariables false

/-! ### whole numbers -/
theorem w64 {x : Int} (h0 : -9223372036854775808 ≤ x) (h1 : x ≤ 9223372036854775807) : wrap64 x = x := by unfold wrap64; omega
theorem wraps_i64 (n : Int) (h0 : 0 ≤ n) (h1 : n < 2 ^ 63) : IntKind.i64.wrap n = n := by
  rw [IntKind.wrap_i64]; omega
theorem or_shl (k : Nat) (hk : k ≤ 62) (a b : Int) (ha : 0 ≤ a) (hb : 0 ≤ b) (hb' : b < 2 ^ k) (hs : a * 2 ^ k + b < 2 ^ 63) : Go.bits .or .i64 (a * 2 ^ k) b = a * 2 ^ k + b := by
  have hp : (0 : Int) < 2 ^ k := by exact_mod_cast Nat.two_pow_pos k
  have h1 : 0 ≤ a * 2 ^ k := Int.mul_nonneg ha (by omega)
  have h2 : (2 : Int) ^ k ≤ 2 ^ 62 := by exact_mod_cast Nat.pow_le_pow_right (by decide) hk
  refine bits_join .i64 63 (by decide) wraps_i64 k (a * 2 ^ k) b h1 (Int.mul_emod_left _ _) (by omega) hb (by exact_mod_cast hb') (by omega)
theorem or_shl8 (a b : Int) (ha : 0 ≤ a) (ha' : a ≤ 36028797018963967) (hb : 0 ≤ b) (hb' : b ≤ 255) : Go.bits .or .i64 (a * 256) b = a * 256 + b :=
  bits_join .i64 63 (by decide) wraps_i64 8 (a * 256) b (by omega) (by omega) (by omega) hb (by omega) (by omega)
theorem and_mask (i : Nat) (hi : i ≤ 63) (x : Int) : Go.bits .and .i64 x (2 ^ i - 1) = x % 2 ^ i := by
  have hpos : 0 < 2 ^ i := Nat.two_pow_pos i
  have hle : 2 ^ i ≤ 2 ^ 63 := Nat.pow_le_pow_right (by decide) hi
  have hc : ((2 : Int) ^ i - 1) = ((2 ^ i - 1 : Nat) : Int) := by rw [Int.natCast_sub hpos]; simp
  have hm : (2 ^ i - 1) % 2 ^ 64 = 2 ^ i - 1 := Nat.mod_eq_of_lt (by omega)
  have hx : (BitVec.ofInt 64 x).toNat = (x % 18446744073709551616).toNat := by simp [BitVec.toNat_ofInt]
  have e : ((x % 18446744073709551616).toNat : Int) = x % 18446744073709551616 := by omega
  have hd : (2 : Int) ^ i ∣ 18446744073709551616 := by
    have : (18446744073709551616 : Int) = 2 ^ i * 2 ^ (64 - i) := by rw [← Int.pow_add]; rw [show i + (64 - i) = 64 by omega]; decide
    exact ⟨_, this⟩
  rw [hc]
  show IntKind.i64.wrap (((BitVec.ofInt 64 x &&& BitVec.ofInt 64 ((2 ^ i - 1 : Nat) : Int)).toNat : Nat) : Int) = _
  rw [BitVec.toNat_and, BitVec.ofInt_natCast, BitVec.toNat_ofNat, hm, hx, Nat.and_two_pow_sub_one_eq_mod]
  have e2 : (((x % 18446744073709551616).toNat % 2 ^ i : Nat) : Int) = x % 2 ^ i := by
    rw [Int.natCast_emod, e]; push_cast
    exact Int.emod_emod_of_dvd _ hd
  rw [e2]
  have h2 : (0 : Int) < 2 ^ i := by exact_mod_cast hpos
  have h3 : (2 : Int) ^ i ≤ 2 ^ 63 := by exact_mod_cast hle
  have := Int.emod_nonneg x (Int.ne_of_gt h2)
  have := Int.emod_lt_of_pos x h2
  exact wraps_i64 _ (by assumption) (by omega)
theorem or_nat (a b : Nat) (ha : a < 2 ^ 63) (hb : b < 2 ^ 63) : Go.bits .or .i64 (a : Int) (b : Int) = ((a ||| b : Nat) : Int) := (bits_nat .i64 63 (by decide) wraps_i64 a b ha hb).2
/-- One bit set, in the midst of a number where it was none. -/
theorem or_mid (k : Nat) (hi lo : Nat) (h : lo < 2 ^ k) : (2 ^ (k + 1) * hi + lo) ||| 2 ^ k = 2 ^ (k + 1) * hi + (2 ^ k + lo) := by
  have h1 : lo < 2 ^ (k + 1) := by rw [Nat.pow_succ]; omega
  have h2 : 2 ^ k + lo < 2 ^ (k + 1) := by rw [Nat.pow_succ]; omega
  have h3 := Nat.two_pow_add_eq_or_of_lt h 1
  rw [Nat.mul_one] at h3
  rw [Nat.two_pow_add_eq_or_of_lt h1, Nat.two_pow_add_eq_or_of_lt h2, h3, Nat.or_assoc, Nat.or_comm lo]
theorem and_1 (x : Int) : Go.bits .and .i64 x 1 = x % 2 := and_mask 1 (by decide) x
theorem and_255 (x : Int) : Go.bits .and .i64 x 255 = x % 256 := and_mask 8 (by decide) x
theorem and_32767 (x : Int) : Go.bits .and .i64 x 32767 = x % 32768 := and_mask 15 (by decide) x
theorem wraps_u64 (n : Int) (h0 : 0 ≤ n) (h1 : n < 2 ^ 64) : IntKind.u64.wrap n = n := by
  simp [IntKind.wrap, IntKind.bits, IntKind.signed]; omega
theorem u64_and255 (x : Int) (h0 : 0 ≤ x) (h1 : x < 18446744073709551616) : Go.bits .and .u64 x 255 = x % 256 :=
  bits_mask .u64 64 (by decide) wraps_u64 8 (by decide) x h0 (by omega)
/-! ### lists -/
theorem getD_lt {α : Type} {l : List α} {d : α} {i : Nat} (h : i < l.length) : l.getD i d = l[i] := by
  rw [List.getD_eq_getElem?_getD, List.getElem?_eq_getElem h]; rfl
theorem take_snoc {α : Type} (l : List α) (d : α) (i : Nat) (h : i < l.length) : l.take (i + 1) = l.take i ++ [l.getD i d] := by
  rw [List.take_succ_eq_append_getElem h, getD_lt h]
theorem drop_cons {α : Type} (l : List α) (d : α) (i : Nat) (h : i < l.length) : l.drop i = l.getD i d :: l.drop (i + 1) := by
  rw [getD_lt h]; exact List.drop_eq_getElem_cons h

/-! ### strings as bytes -/
theorem data_length (s : ByteArray) : s.data.toList.length = s.size := by rw [Array.length_toList]; rfl
theorem ext_data {a b : ByteArray} (h : a.data.toList = b.data.toList) : a = b := ByteArray.ext (Array.ext' h)
theorem bytesOf_inj {a b : ByteArray} (h : bytesOf a = bytesOf b) : a = b := by
  apply ext_data
  unfold bytesOf at h
  refine List.map_inj_right (f := fun b : UInt8 => (b.toNat : Int)) (fun x y e => ?_) |>.1 h
  exact UInt8.toNat_inj.1 (by exact_mod_cast e)
theorem bytesOf_append (a b : ByteArray) : bytesOf (a ++ b) = bytesOf a ++ bytesOf b := by
  unfold bytesOf; rw [ByteArray.data_append, Array.toList_append, List.map_append]
theorem bytesOf_extract (s : ByteArray) (a b : Nat) : bytesOf (s.extract a b) = ((bytesOf s).take b).drop a := by
  unfold bytesOf; rw [ByteArray.data_extract, Array.toList_extract, List.extract_eq_take_drop, List.map_take, List.map_drop]
  rw [List.drop_take]
theorem byte_range {s : ByteArray} {x : Int} (h : x ∈ bytesOf s) : 0 ≤ x ∧ x ≤ 255 := by
  unfold bytesOf at h
  obtain ⟨b, _, rfl⟩ := List.mem_map.1 h
  have := b.toNat_lt
  omega
theorem bytesOf_nums {xs : List Int} (h : ∀ x ∈ xs, 0 ≤ x ∧ x ≤ 255) : bytesOf (strOfNums xs) = xs := by
  unfold bytesOf
  rw [Go.strOfNums_data, List.map_map]
  conv => rhs; rw [← List.map_id xs]
  refine List.map_congr_left fun x hx => ?_
  have := h x hx
  simp only [Function.comp_apply, UInt8.toNat_ofNat', id]
  omega
theorem nums_bytesOf (s : ByteArray) : strOfNums (bytesOf s) = s := bytesOf_inj (bytesOf_nums fun _ h => byte_range h)
theorem nums_append (xs ys : List Int) : strOfNums xs ++ strOfNums ys = strOfNums (xs ++ ys) := by
  apply ext_data; simp [strOfNums, ByteArray.data_append]
theorem bt_bytes (s : ByteArray) (i : Nat) : bt s (i : Int) = (bytesOf s).getD i 0 := by
  unfold bt bytesOf
  rw [List.getD_eq_getElem?_getD, List.getElem?_map]
  split
  · rename_i h
    have h' : i < s.size := by simpa using h
    rw [List.getElem?_eq_getElem (by rw [data_length]; exact h')]
    simp
    rfl
  · rename_i h
    have h' : ¬ i < s.size := by simpa using h
    rw [List.getElem?_eq_none (by rw [data_length]; omega)]
    rfl
theorem toList_data (s : ByteArray) : s.toList = s.data.toList := ByteArray.toList_eq s
theorem toList_inj {a b : ByteArray} (h : a.toList = b.toList) : a = b := ext_data (by rw [← toList_data, ← toList_data]; exact h)

/-! ### from some number of rounds on -/
section
variable {α β : Type} {r : α}
theorem Ev.pos {c : Prop} [Decidable c] {f g : Nat → Option α} (h : c) (k : Ev f r) : Ev (fun n => if c then f n else g n) r := by
  simp only [if_pos h]; exact k
theorem Ev.neg {c : Prop} [Decidable c] {f g : Nat → Option α} (h : ¬ c) (k : Ev g r) : Ev (fun n => if c then f n else g n) r := by
  simp only [if_neg h]; exact k
theorem Ev.some (f : Nat → Option α) (h : ∀ n, f n = some r) : Ev f r := ⟨0, fun n _ => h n⟩
/-- A call that needs no rounds. -/
theorem Ev.call {g : Option β} {f : Nat → β → Option α} {a : β} (h : g = Option.some a) (k : Ev (fun n => f n a) r) : Ev (fun n => g.bind (f n)) r := by
  subst h; exact k
end
end Go.Proofs.Ytndcjleadggibaa.Pu

namespace Go.Proofs.Ytndcjleadggibaa.POz
open Go.RowKit Go.Proofs.YtndcjleadggibaaW.PrintWords Go.Proofs.YtndcjleadggibaaW.PrintLast Go.Proofs.YtndcjleadggibaaW.PrintMore
attribute [local go_sem] max2_int min2_int max_two min_two max_three min_three max_four min_four   -- for this text's walks alone
set_option linter.unusedVariables false
set_option linter.unusedSimpArgs false

/-! ### opt_Put: function 14 -/
mutual
def opt_Put.j0 : Nat → Bool → Int → Int → Int → Bool → Int → List (S52) → Option (ByteArray × Int × Int × Int × ByteArray × Int)
  | 0, _, _, _, _, _, _, _ => none
  | k + 1, x29, x123000, x123001, x123002, x123003, x123004, x123005 => if x29 = true then (some ((⟨#[]⟩ : ByteArray), 0, 0, 0, (⟨#[]⟩ : ByteArray), 800)) else (opt_Put.l0 k ([] : List Int) x123005 (x123005.length : Int) 0 x123000 x123001 x123002 x123003 x123004 x123005)
def opt_Put.l0 : Nat → List Int → List (S52) → Int → Int → Int → Int → Int → Bool → Int → List (S52) → Option (ByteArray × Int × Int × Int × ByteArray × Int)
  | 0, _, _, _, _, _, _, _, _, _, _ => none
  | k + 1, x4, x32, x33, x34, x123000, x123001, x123002, x123003, x123004, x123005 => if x34 < x33 then (if 0 ≤ x34 then (if x34 < (x32.length : Int) then ((opt_in.f ((rd_T52 x32 x34).f0) 65535).bind fun t130 => (if t130 = true then (opt_Put.j2 k x4 x32 x33 x34 (decide ((((rd_T52 x32 x34).f1).size : Int) > 65535)) x123000 x123001 x123002 x123003 x123004 x123005 ((rd_T52 x32 x34).f0) ((rd_T52 x32 x34).f1)) else (opt_Put.j2 k x4 x32 x33 x34 true x123000 x123001 x123002 x123003 x123004 x123005 ((rd_T52 x32 x34).f0) ((rd_T52 x32 x34).f1)))) else (none)) else (none)) else (if x123003 = true then (some ((⟨#[0]⟩ : ByteArray), 41, x123000, Go.bits .or .i64 (Go.bits .or .i64 (Go.bits .or .i64 (wrap64 (x123001 * 16777216)) (wrap64 (x123002 * 65536))) x123004) 32768, strOfNums x4, 0)) else (some ((⟨#[0]⟩ : ByteArray), 41, x123000, Go.bits .or .i64 (Go.bits .or .i64 (wrap64 (x123001 * 16777216)) (wrap64 (x123002 * 65536))) x123004, strOfNums x4, 0)))
def opt_Put.j2 : Nat → List Int → List (S52) → Int → Int → Bool → Int → Int → Int → Bool → Int → List (S52) → Int → ByteArray → Option (ByteArray × Int × Int × Int × ByteArray × Int)
  | 0, _, _, _, _, _, _, _, _, _, _, _, _, _ => none
  | k + 1, x4, x32, x33, x34, x47, x123000, x123001, x123002, x123003, x123004, x123005, x130000, x130001 => if x47 = true then (some ((⟨#[]⟩ : ByteArray), 0, 0, 0, (⟨#[]⟩ : ByteArray), 800)) else ((octet_Put16.f x130000).bind fun t131 => ((octet_Put16.f (x130001.size : Int)).bind fun t132 => (if t131.size + t132.size ≤ 9223372036854775807 then (if x4.length + (t131 ++ t132).size < 140737488355328 then ((some (x4 ++ bytesOf (t131 ++ t132) : List Int)).bind fun y133 => (if y133.length + x130001.size < 140737488355328 then ((some (y133 ++ bytesOf x130001 : List Int)).bind fun y136 => (if (y136.length : Int) > 65535 then (some ((⟨#[]⟩ : ByteArray), 0, 0, 0, (⟨#[]⟩ : ByteArray), 800)) else (opt_Put.l0 k y136 x32 x33 (wrap64 (x34 + 1)) x123000 x123001 x123002 x123003 x123004 x123005))) else (none))) else (none)) else (none))))
end
def opt_Put.f (k : Nat) (a0_0 : Int) (a0_1 : Int) (a0_2 : Int) (a0_3 : Bool) (a0_4 : Int) (l0_5 : List (S52)) : Option (ByteArray × Int × Int × Int × ByteArray × Int) := (opt_in.f a0_0 65535).bind fun t124 => (if t124 = true then ((opt_in.f a0_1 255).bind fun t125 => (if t125 = true then ((opt_in.f a0_2 255).bind fun t126 => (if t126 = true then ((opt_in.f a0_4 32767).bind fun t127 => (opt_Put.j0 k (!t127) a0_0 a0_1 a0_2 a0_3 a0_4 l0_5)) else (opt_Put.j0 k true a0_0 a0_1 a0_2 a0_3 a0_4 l0_5))) else (opt_Put.j0 k true a0_0 a0_1 a0_2 a0_3 a0_4 l0_5))) else (opt_Put.j0 k true a0_0 a0_1 a0_2 a0_3 a0_4 l0_5))
theorem opt_Put.mono_l : ∀ k, (∀ y0 y1 y2 y3 y4 y5 y6, LeO (opt_Put.j0 k y0 y1 y2 y3 y4 y5 y6) (opt_Put.j0 (k + 1) y0 y1 y2 y3 y4 y5 y6)) ∧ (∀ y0 y1 y2 y3 y4 y5 y6 y7 y8 y9, LeO (opt_Put.l0 k y0 y1 y2 y3 y4 y5 y6 y7 y8 y9) (opt_Put.l0 (k + 1) y0 y1 y2 y3 y4 y5 y6 y7 y8 y9)) ∧ (∀ y0 y1 y2 y3 y4 y5 y6 y7 y8 y9 y10 y11 y12, LeO (opt_Put.j2 k y0 y1 y2 y3 y4 y5 y6 y7 y8 y9 y10 y11 y12) (opt_Put.j2 (k + 1) y0 y1 y2 y3 y4 y5 y6 y7 y8 y9 y10 y11 y12))
  | 0 => ⟨fun _ _ _ _ _ _ _ r h => by simp [opt_Put.j0] at h, fun _ _ _ _ _ _ _ _ _ _ r h => by simp [opt_Put.l0] at h, fun _ _ _ _ _ _ _ _ _ _ _ _ _ r h => by simp [opt_Put.j2] at h⟩
  | k + 1 => by
    obtain ⟨ih0, ih1, ih2⟩ := opt_Put.mono_l k
    refine ⟨?_, ?_, ?_⟩
    · intro y0 y1 y2 y3 y4 y5 y6
      unfold opt_Put.j0
      repeat' first
      | (with_reducible exact ih0 _ _ _ _ _ _ _)
      | (with_reducible exact ih1 _ _ _ _ _ _ _ _ _ _)
      | (with_reducible exact ih2 _ _ _ _ _ _ _ _ _ _ _ _ _)
      | (with_reducible exact LeO.refl _)
      | (with_reducible exact LeO.none _)
      | (with_reducible refine LeO.ite ?_ ?_)
      | (with_reducible refine LeO.bind ?_ (fun _ => ?_))
      | exact ih0 _ _ _ _ _ _ _
      | exact ih1 _ _ _ _ _ _ _ _ _ _
      | exact ih2 _ _ _ _ _ _ _ _ _ _ _ _ _
      | exact LeO.none _
      | refine LeO.ite ?_ ?_
      | refine LeO.bind ?_ (fun _ => ?_)
    · intro y0 y1 y2 y3 y4 y5 y6 y7 y8 y9
      unfold opt_Put.l0
      repeat' first
      | (with_reducible exact ih0 _ _ _ _ _ _ _)
      | (with_reducible exact ih1 _ _ _ _ _ _ _ _ _ _)
      | (with_reducible exact ih2 _ _ _ _ _ _ _ _ _ _ _ _ _)
      | (with_reducible exact LeO.refl _)
      | (with_reducible exact LeO.none _)
      | (with_reducible refine LeO.ite ?_ ?_)
      | (with_reducible refine LeO.bind ?_ (fun _ => ?_))
      | exact ih0 _ _ _ _ _ _ _
      | exact ih1 _ _ _ _ _ _ _ _ _ _
      | exact ih2 _ _ _ _ _ _ _ _ _ _ _ _ _
      | exact LeO.none _
      | refine LeO.ite ?_ ?_
      | refine LeO.bind ?_ (fun _ => ?_)
    · intro y0 y1 y2 y3 y4 y5 y6 y7 y8 y9 y10 y11 y12
      unfold opt_Put.j2
      repeat' first
      | (with_reducible exact ih0 _ _ _ _ _ _ _)
      | (with_reducible exact ih1 _ _ _ _ _ _ _ _ _ _)
      | (with_reducible exact ih2 _ _ _ _ _ _ _ _ _ _ _ _ _)
      | (with_reducible exact LeO.refl _)
      | (with_reducible exact LeO.none _)
      | (with_reducible refine LeO.ite ?_ ?_)
      | (with_reducible refine LeO.bind ?_ (fun _ => ?_))
      | exact ih0 _ _ _ _ _ _ _
      | exact ih1 _ _ _ _ _ _ _ _ _ _
      | exact ih2 _ _ _ _ _ _ _ _ _ _ _ _ _
      | exact LeO.none _
      | refine LeO.ite ?_ ?_
      | refine LeO.bind ?_ (fun _ => ?_)
theorem opt_Put.mono : ∀ a0 a1 a2 a3 a4 a5 k, LeO (opt_Put.f k a0 a1 a2 a3 a4 a5) (opt_Put.f (k + 1) a0 a1 a2 a3 a4 a5) := by
  intro a0 a1 a2 a3 a4 a5 k
  obtain ⟨ih0, ih1, ih2⟩ := opt_Put.mono_l k
  unfold opt_Put.f
  repeat' first
      | (with_reducible exact ih0 _ _ _ _ _ _ _)
      | (with_reducible exact ih1 _ _ _ _ _ _ _ _ _ _)
      | (with_reducible exact ih2 _ _ _ _ _ _ _ _ _ _ _ _ _)
      | (with_reducible exact LeO.refl _)
      | (with_reducible exact LeO.none _)
      | (with_reducible refine LeO.ite ?_ ?_)
      | (with_reducible refine LeO.bind ?_ (fun _ => ?_))
      | exact ih0 _ _ _ _ _ _ _
      | exact ih1 _ _ _ _ _ _ _ _ _ _
      | exact ih2 _ _ _ _ _ _ _ _ _ _ _ _ _
      | exact LeO.none _
      | refine LeO.ite ?_ ?_
      | refine LeO.bind ?_ (fun _ => ?_)
def opt_Put.T9 : Bool × List (List Nat × List Nat) := (true, [([], []), ([], []), ([1], [1]), ([2], [2]), ([], []), ([4], [4]), ([5], [5]), ([6, 3], [6]), ([3, 7], [3, 7]), ([0, 8, 7], [0, 8]), ([], []), ([10], [10]), ([9, 11, 9], [9, 11]), ([12, 12, 0, 1, 2, 3, 4, 5, 6, 7, 8, 9, 10, 11, 12], [0, 12])])
def opt_Put.B9 : List Nat := [0, 0, 2, 6, 0, 16, 48, 126, 254, 511, 0, 1024, 4095, 8191]
theorem opt_Put.tab9 : rtab .any (opsOf Try.f14 9) = opt_Put.T9 := by kernel_rfl
theorem opt_Put.bits9 : waitsOk opt_Put.T9.2 opt_Put.B9 = true := by kernel_rfl
set_option maxHeartbeats 8000000 in
set_option maxRecDepth 100000 in
theorem opt_Put.calls (k : Nat) (a0_0 : Int) (a0_1 : Int) (a0_2 : Int) (a0_3 : Bool) (a0_4 : Int) (A0_5 : Option Addr) (c0_5 : Nat) (l0_5 : List (S52)) (r1 : ByteArray) (r2 : Int) (r3 : Int) (r4 : Int) (r5 : ByteArray) (r6 : Int) (w : World) (hr0_5 : Kd.C k52 w A0_5 l0_5.length l0_5) (hc0_5 : l0_5.length ≤ c0_5) (h : opt_Put.f k a0_0 a0_1 a0_2 a0_3 a0_4 l0_5 = some (r1, r2, r3, r4, r5, r6)) :
    Calls Try.prog 14 #[.agg #[.int .i64 a0_0, .int .i64 a0_1, .int .i64 a0_2, .bool a0_3, .int .i64 a0_4, .slice A0_5 l0_5.length c0_5]] w fun e w' => e = .returned (.tuple #[.agg #[.string r1, .int .i64 r2, .int .i64 r3, .int .i64 r4, .string r5], .int .i64 r6]) ∧ Below w.heap.size w w' := by
  have hu24 := Try.underlying24
  have hu26 := Try.underlying26
  have hu52 := Try.underlying52
  have HR0_5 := Aside0.mk hr0_5
  have HC0_5 := Aside0.mk hc0_5
  clear hr0_5 hc0_5
  have HB := Aside0.mk (Below.refl w.heap.size w)
  have H : ((opt_in.f a0_0 65535).bind fun t124 => (if t124 = true then ((opt_in.f a0_1 255).bind fun t125 => (if t125 = true then ((opt_in.f a0_2 255).bind fun t126 => (if t126 = true then ((opt_in.f a0_4 32767).bind fun t127 => (opt_Put.j0 k (!t127) a0_0 a0_1 a0_2 a0_3 a0_4 l0_5)) else (opt_Put.j0 k true a0_0 a0_1 a0_2 a0_3 a0_4 l0_5))) else (opt_Put.j0 k true a0_0 a0_1 a0_2 a0_3 a0_4 l0_5))) else (opt_Put.j0 k true a0_0 a0_1 a0_2 a0_3 a0_4 l0_5))) = some (r1, r2, r3, r4, r5, r6) := h
  clear h
  have HC2 := Aside0.mk H
  clear H
  go_enter Try.func14, Try.ntmps14
  go_upto_region 1 with (first | ((with_reducible refine gate_dst (N := 1) rfl ?_); (try (refine gate_guard (by rfl) ?_; dsimp only)); refine box_event ?hg (N := 1) ?hd (cs := #[.int .i64 a0_0, .int .i64 a0_1, .int .i64 a0_2, .bool a0_3, .int .i64 a0_4, .slice A0_5 l0_5.length c0_5]) (t := 24) ?hr ?_; (case hd => rfl); (case hg => rfl); (case hr => first | (go_simp; done) | (go_simp; rfl)); intro gb122 hg w3 hbox hb; have n0_ := Aside0.mk (below_step (by repeat (first | (with_reducible first | exact HB.out | apply below_alloc | apply pw_below_drewN | apply below_drew1) | exact HB.out)) hb); have n1_ := Aside0.mk (hbox); have n2_ := Aside0.mk ((by rw [hg]; exact (below_size (by repeat (first | (with_reducible first | exact HB.out | apply below_alloc | apply pw_below_drewN | apply below_drew1) | exact HB.out))) : w.heap.size ≤ gb122)); have n3_ := Aside0.mk ((by rw [hg]; exact (below_size (by repeat (first | (with_reducible first | exact HB.out | apply below_alloc | apply pw_below_drewN | apply below_drew1) | exact HB.out))) : w.heap.size ≤ gb122)); clear HB; have HB := n0_; have BK122 := n1_; have GW122 := n2_; have GE122 := n3_; clear n0_ n1_ n2_ n3_; clear hb hbox hg) | ((with_reducible refine gate_dst (N := 2) rfl ?_); (try (refine gate_guard (by rfl) ?_; dsimp only)); refine box_event ?hg (N := 2) ?hd (cs := #[.string (⟨#[]⟩ : ByteArray), .int .i64 0, .int .i64 0, .int .i64 0, .string (⟨#[]⟩ : ByteArray)]) (t := 26) ?hr ?_; (case hd => rfl); (case hg => rfl); (case hr => first | (go_simp; done) | (go_simp; rfl)); intro gb123 hg w4 hbox hb; have n0_ := Aside0.mk (blk_below (g := gb122) (o := .cells #[.int .i64 a0_0, .int .i64 a0_1, .int .i64 a0_2, .bool a0_3, .int .i64 a0_4, .slice A0_5 l0_5.length c0_5] 24 (0, 0)) (by (with_reducible repeat (first | refine blk_drewN ?_ _ | refine blk_drew ?_ | refine blk_alloc ?_ _)); exact BK122.out) hb); have n1_ := Aside0.mk (below_step (by repeat (first | (with_reducible first | exact HB.out | apply below_alloc | apply pw_below_drewN | apply below_drew1 | refine below_set ?_ GE122.out) | exact HB.out)) hb); have n2_ := Aside0.mk (hbox); have n3_ := Aside0.mk ((by rw [hg]; exact (below_size (by repeat (first | (with_reducible first | exact HB.out | apply below_alloc | apply pw_below_drewN | apply below_drew1 | refine below_set ?_ GE122.out) | exact HB.out))) : w.heap.size ≤ gb123)); have n4_ := Aside0.mk ((by rw [hg]; exact (below_size (by repeat (first | (with_reducible first | exact HB.out | apply below_alloc | apply pw_below_drewN | apply below_drew1 | refine below_set ?_ GE122.out) | exact HB.out))) : w.heap.size ≤ gb123)); have n5_ := Aside0.mk ((by rw [hg]; exact Nat.ne_of_lt (blk_lt (g := gb122) (o := .cells #[.int .i64 a0_0, .int .i64 a0_1, .int .i64 a0_2, .bool a0_3, .int .i64 a0_4, .slice A0_5 l0_5.length c0_5] 24 (0, 0)) (by (with_reducible repeat (first | refine blk_drewN ?_ _ | refine blk_drew ?_ | refine blk_alloc ?_ _)); exact BK122.out)) : gb122 ≠ gb123)); have n6_ := Aside0.mk ((by rw [hg]; exact Nat.ne_of_gt (blk_lt (g := gb122) (o := .cells #[.int .i64 a0_0, .int .i64 a0_1, .int .i64 a0_2, .bool a0_3, .int .i64 a0_4, .slice A0_5 l0_5.length c0_5] 24 (0, 0)) (by (with_reducible repeat (first | refine blk_drewN ?_ _ | refine blk_drew ?_ | refine blk_alloc ?_ _)); exact BK122.out)) : gb123 ≠ gb122)); clear BK122; clear HB; have BK122 := n0_; have HB := n1_; have BK123 := n2_; have GW123 := n3_; have GE123 := n4_; have NB122_123 := n5_; have NB123_122 := n6_; clear n0_ n1_ n2_ n3_ n4_ n5_ n6_; clear hb hbox hg))
  (try simp only [Act.put, List.setIfInBounds_toArray, List.set_cons_zero, List.set_cons_succ])
  go_cut [29] (fun v29 wc => ∃ (kq : Nat) (x29_1 : Bool), v29 = .bool x29_1 ∧ Aside0 (opt_Put.j0 kq x29_1 a0_0 a0_1 a0_2 a0_3 a0_4 l0_5 = some (r1, r2, r3, r4, r5, r6)) ∧ Aside0 (kq ≤ k) ∧ Aside0 (wc.heap[gb122]? = some (.cells #[.int .i64 a0_0, .int .i64 a0_1, .int .i64 a0_2, .bool a0_3, .int .i64 a0_4, (.slice A0_5 l0_5.length c0_5)] 24 (0, 0))) ∧ Aside0 (wc.heap[gb123]? = some (.cells #[.string (⟨#[]⟩ : ByteArray), .int .i64 0, .int .i64 0, .int .i64 0, .string (⟨#[]⟩ : ByteArray)] 26 (0, 0))) ∧ Aside0 (Below w.heap.size w wc))
  case first =>
    have H := HC2.out
    clear HC2
    replace H := Option.bind_eq_some_iff.mp H
    obtain ⟨t124, A50, H⟩ := H
    replace H : (if t124 = true then ((opt_in.f a0_1 255).bind fun t125 => (if t125 = true then ((opt_in.f a0_2 255).bind fun t126 => (if t126 = true then ((opt_in.f a0_4 32767).bind fun t127 => (opt_Put.j0 k (!t127) a0_0 a0_1 a0_2 a0_3 a0_4 l0_5)) else (opt_Put.j0 k true a0_0 a0_1 a0_2 a0_3 a0_4 l0_5))) else (opt_Put.j0 k true a0_0 a0_1 a0_2 a0_3 a0_4 l0_5))) else (opt_Put.j0 k true a0_0 a0_1 a0_2 a0_3 a0_4 l0_5)) = some (r1, r2, r3, r4, r5, r6) := H
    have A5 := Aside0.mk A50
    clear A50
    by_cases c6 : t124 = true
    · subst c6
      have H1 : ((opt_in.f a0_1 255).bind fun t125 => (if t125 = true then ((opt_in.f a0_2 255).bind fun t126 => (if t126 = true then ((opt_in.f a0_4 32767).bind fun t127 => (opt_Put.j0 k (!t127) a0_0 a0_1 a0_2 a0_3 a0_4 l0_5)) else (opt_Put.j0 k true a0_0 a0_1 a0_2 a0_3 a0_4 l0_5))) else (opt_Put.j0 k true a0_0 a0_1 a0_2 a0_3 a0_4 l0_5))) = some (r1, r2, r3, r4, r5, r6) := by rw [if_pos rfl] at H; exact H
      clear H
      have H := H1
      clear H1
      replace H := Option.bind_eq_some_iff.mp H
      obtain ⟨t125, A70, H⟩ := H
      replace H : (if t125 = true then ((opt_in.f a0_2 255).bind fun t126 => (if t126 = true then ((opt_in.f a0_4 32767).bind fun t127 => (opt_Put.j0 k (!t127) a0_0 a0_1 a0_2 a0_3 a0_4 l0_5)) else (opt_Put.j0 k true a0_0 a0_1 a0_2 a0_3 a0_4 l0_5))) else (opt_Put.j0 k true a0_0 a0_1 a0_2 a0_3 a0_4 l0_5)) = some (r1, r2, r3, r4, r5, r6) := H
      have A7 := Aside0.mk A70
      clear A70
      by_cases c8 : t125 = true
      · subst c8
        have H1 : ((opt_in.f a0_2 255).bind fun t126 => (if t126 = true then ((opt_in.f a0_4 32767).bind fun t127 => (opt_Put.j0 k (!t127) a0_0 a0_1 a0_2 a0_3 a0_4 l0_5)) else (opt_Put.j0 k true a0_0 a0_1 a0_2 a0_3 a0_4 l0_5))) = some (r1, r2, r3, r4, r5, r6) := by rw [if_pos rfl] at H; exact H
        clear H
        have H := H1
        clear H1
        replace H := Option.bind_eq_some_iff.mp H
        obtain ⟨t126, A90, H⟩ := H
        replace H : (if t126 = true then ((opt_in.f a0_4 32767).bind fun t127 => (opt_Put.j0 k (!t127) a0_0 a0_1 a0_2 a0_3 a0_4 l0_5)) else (opt_Put.j0 k true a0_0 a0_1 a0_2 a0_3 a0_4 l0_5)) = some (r1, r2, r3, r4, r5, r6) := H
        have A9 := Aside0.mk A90
        clear A90
        by_cases c10 : t126 = true
        · subst c10
          have H1 : ((opt_in.f a0_4 32767).bind fun t127 => (opt_Put.j0 k (!t127) a0_0 a0_1 a0_2 a0_3 a0_4 l0_5)) = some (r1, r2, r3, r4, r5, r6) := by rw [if_pos rfl] at H; exact H
          clear H
          have H := H1
          clear H1
          replace H := Option.bind_eq_some_iff.mp H
          obtain ⟨t127, A110, H⟩ := H
          replace H : (opt_Put.j0 k (!t127) a0_0 a0_1 a0_2 a0_3 a0_4 l0_5) = some (r1, r2, r3, r4, r5, r6) := H
          have A11 := Aside0.mk A110
          clear A110
          have H' := Aside0.mk H
          clear H
          have hnb12 := NB122_123.out
          have hnc12 := NB123_122.out
          have hcz13_0 : w4.cell? ⟨gb122, 0, none⟩ = some (.int .i64 a0_0) := (blk_cell BK122.out 0).trans rfl
          have hcz13_1 : w4.cell? ⟨gb122, 1, none⟩ = some (.int .i64 a0_1) := (blk_cell BK122.out 1).trans rfl
          have hcz13_2 : w4.cell? ⟨gb122, 2, none⟩ = some (.int .i64 a0_2) := (blk_cell BK122.out 2).trans rfl
          have hcz13_3 : w4.cell? ⟨gb122, 3, none⟩ = some (.bool a0_3) := (blk_cell BK122.out 3).trans rfl
          have hcz13_4 : w4.cell? ⟨gb122, 4, none⟩ = some (.int .i64 a0_4) := (blk_cell BK122.out 4).trans rfl
          have hcz13_5 : w4.cell? ⟨gb122, 5, none⟩ = some (.slice A0_5 l0_5.length c0_5) := (blk_cell BK122.out 5).trans rfl
          have hfz13_0 := blk_frozen BK122.out 0
          have hfz13_1 := blk_frozen BK122.out 1
          have hfz13_2 := blk_frozen BK122.out 2
          have hfz13_3 := blk_frozen BK122.out 3
          have hfz13_4 := blk_frozen BK122.out 4
          have hfz13_5 := blk_frozen BK122.out 5
          go_wp2_with (first | ((with_reducible refine gate_dst (N := 10) rfl ?_); (try (refine gate_guard (by rfl) ?_; dsimp only)); (with_reducible refine gate_callee (f := 46) rfl ?_); refine goesL_ (some 10) rfl rfl Try.func46 (by kernel_rfl) rfl #[.int .i64 a0_0, .int .i64 65535] rfl (by (try simp only [List.map_toArray, List.map_cons, List.map_nil]); first | done | rfl | (simp only [List.length_drop, List.length_take]; rfl)) ?_; (with_reducible refine (opt_in.calls a0_0 65535 true _ A5.out).mono ?_); rintro e w' ⟨rfl, ⟨nd, rfl⟩⟩; refine ⟨_, rfl, ?_⟩) | (go_at_call 46; (with_reducible refine (opt_in.calls a0_1 255 true _ A7.out).mono ?_); rintro e w' ⟨rfl, ⟨nd, rfl⟩⟩) | (go_at_call 46; (with_reducible refine (opt_in.calls a0_2 255 true _ A9.out).mono ?_); rintro e w' ⟨rfl, ⟨nd, rfl⟩⟩) | (go_at_call 46; (with_reducible refine (opt_in.calls a0_4 32767 t127 _ A11.out).mono ?_); rintro e w' ⟨rfl, ⟨nd, rfl⟩⟩))
          go_meet
          case rel => exact ⟨_, (!t127), (by first | rfl | (simp; done) | (simp [*]; done)), H', ⟨by first | omega | exact Nat.le_refl _⟩, ⟨by (with_reducible repeat (first | refine blk_drewN ?_ _ | refine blk_drew ?_ | refine blk_alloc ?_ _)); exact BK122.out⟩, ⟨by (with_reducible repeat (first | refine blk_drewN ?_ _ | refine blk_drew ?_ | refine blk_alloc ?_ _)); exact BK123.out⟩, ⟨by repeat (first | (with_reducible first | exact HB.out | apply below_alloc | apply pw_below_drewN | apply below_drew1 | refine below_set ?_ GE122.out | refine below_set ?_ GE123.out) | exact HB.out)⟩⟩
        · replace c10 := Bool.eq_false_iff.mpr c10
          subst c10
          have H1 : (opt_Put.j0 k true a0_0 a0_1 a0_2 a0_3 a0_4 l0_5) = some (r1, r2, r3, r4, r5, r6) := by rw [if_neg (show ¬ (false = true) by decide)] at H; exact H
          clear H
          have H := H1
          clear H1
          have H' := Aside0.mk H
          clear H
          have hnb14 := NB122_123.out
          have hnc14 := NB123_122.out
          have hcz15_0 : w4.cell? ⟨gb122, 0, none⟩ = some (.int .i64 a0_0) := (blk_cell BK122.out 0).trans rfl
          have hcz15_1 : w4.cell? ⟨gb122, 1, none⟩ = some (.int .i64 a0_1) := (blk_cell BK122.out 1).trans rfl
          have hcz15_2 : w4.cell? ⟨gb122, 2, none⟩ = some (.int .i64 a0_2) := (blk_cell BK122.out 2).trans rfl
          have hcz15_3 : w4.cell? ⟨gb122, 3, none⟩ = some (.bool a0_3) := (blk_cell BK122.out 3).trans rfl
          have hcz15_4 : w4.cell? ⟨gb122, 4, none⟩ = some (.int .i64 a0_4) := (blk_cell BK122.out 4).trans rfl
          have hcz15_5 : w4.cell? ⟨gb122, 5, none⟩ = some (.slice A0_5 l0_5.length c0_5) := (blk_cell BK122.out 5).trans rfl
          have hfz15_0 := blk_frozen BK122.out 0
          have hfz15_1 := blk_frozen BK122.out 1
          have hfz15_2 := blk_frozen BK122.out 2
          have hfz15_3 := blk_frozen BK122.out 3
          have hfz15_4 := blk_frozen BK122.out 4
          have hfz15_5 := blk_frozen BK122.out 5
          go_wp2_with (first | ((with_reducible refine gate_dst (N := 10) rfl ?_); (try (refine gate_guard (by rfl) ?_; dsimp only)); (with_reducible refine gate_callee (f := 46) rfl ?_); refine goesL_ (some 10) rfl rfl Try.func46 (by kernel_rfl) rfl #[.int .i64 a0_0, .int .i64 65535] rfl (by (try simp only [List.map_toArray, List.map_cons, List.map_nil]); first | done | rfl | (simp only [List.length_drop, List.length_take]; rfl)) ?_; (with_reducible refine (opt_in.calls a0_0 65535 true _ A5.out).mono ?_); rintro e w' ⟨rfl, ⟨nd, rfl⟩⟩; refine ⟨_, rfl, ?_⟩) | (go_at_call 46; (with_reducible refine (opt_in.calls a0_1 255 true _ A7.out).mono ?_); rintro e w' ⟨rfl, ⟨nd, rfl⟩⟩) | (go_at_call 46; (with_reducible refine (opt_in.calls a0_2 255 false _ A9.out).mono ?_); rintro e w' ⟨rfl, ⟨nd, rfl⟩⟩))
          go_meet
          case rel => exact ⟨_, (true), (by first | rfl | (simp; done) | (simp [*]; done)), H', ⟨by first | omega | exact Nat.le_refl _⟩, ⟨by (with_reducible repeat (first | refine blk_drewN ?_ _ | refine blk_drew ?_ | refine blk_alloc ?_ _)); exact BK122.out⟩, ⟨by (with_reducible repeat (first | refine blk_drewN ?_ _ | refine blk_drew ?_ | refine blk_alloc ?_ _)); exact BK123.out⟩, ⟨by repeat (first | (with_reducible first | exact HB.out | apply below_alloc | apply pw_below_drewN | apply below_drew1 | refine below_set ?_ GE122.out | refine below_set ?_ GE123.out) | exact HB.out)⟩⟩
      · replace c8 := Bool.eq_false_iff.mpr c8
        subst c8
        have H1 : (opt_Put.j0 k true a0_0 a0_1 a0_2 a0_3 a0_4 l0_5) = some (r1, r2, r3, r4, r5, r6) := by rw [if_neg (show ¬ (false = true) by decide)] at H; exact H
        clear H
        have H := H1
        clear H1
        have H' := Aside0.mk H
        clear H
        have hnb16 := NB122_123.out
        have hnc16 := NB123_122.out
        have hcz17_0 : w4.cell? ⟨gb122, 0, none⟩ = some (.int .i64 a0_0) := (blk_cell BK122.out 0).trans rfl
        have hcz17_1 : w4.cell? ⟨gb122, 1, none⟩ = some (.int .i64 a0_1) := (blk_cell BK122.out 1).trans rfl
        have hcz17_2 : w4.cell? ⟨gb122, 2, none⟩ = some (.int .i64 a0_2) := (blk_cell BK122.out 2).trans rfl
        have hcz17_3 : w4.cell? ⟨gb122, 3, none⟩ = some (.bool a0_3) := (blk_cell BK122.out 3).trans rfl
        have hcz17_4 : w4.cell? ⟨gb122, 4, none⟩ = some (.int .i64 a0_4) := (blk_cell BK122.out 4).trans rfl
        have hcz17_5 : w4.cell? ⟨gb122, 5, none⟩ = some (.slice A0_5 l0_5.length c0_5) := (blk_cell BK122.out 5).trans rfl
        have hfz17_0 := blk_frozen BK122.out 0
        have hfz17_1 := blk_frozen BK122.out 1
        have hfz17_2 := blk_frozen BK122.out 2
        have hfz17_3 := blk_frozen BK122.out 3
        have hfz17_4 := blk_frozen BK122.out 4
        have hfz17_5 := blk_frozen BK122.out 5
        go_wp2_with (first | ((with_reducible refine gate_dst (N := 10) rfl ?_); (try (refine gate_guard (by rfl) ?_; dsimp only)); (with_reducible refine gate_callee (f := 46) rfl ?_); refine goesL_ (some 10) rfl rfl Try.func46 (by kernel_rfl) rfl #[.int .i64 a0_0, .int .i64 65535] rfl (by (try simp only [List.map_toArray, List.map_cons, List.map_nil]); first | done | rfl | (simp only [List.length_drop, List.length_take]; rfl)) ?_; (with_reducible refine (opt_in.calls a0_0 65535 true _ A5.out).mono ?_); rintro e w' ⟨rfl, ⟨nd, rfl⟩⟩; refine ⟨_, rfl, ?_⟩) | (go_at_call 46; (with_reducible refine (opt_in.calls a0_1 255 false _ A7.out).mono ?_); rintro e w' ⟨rfl, ⟨nd, rfl⟩⟩))
        go_meet
        case rel => exact ⟨_, (true), (by first | rfl | (simp; done) | (simp [*]; done)), H', ⟨by first | omega | exact Nat.le_refl _⟩, ⟨by (with_reducible repeat (first | refine blk_drewN ?_ _ | refine blk_drew ?_ | refine blk_alloc ?_ _)); exact BK122.out⟩, ⟨by (with_reducible repeat (first | refine blk_drewN ?_ _ | refine blk_drew ?_ | refine blk_alloc ?_ _)); exact BK123.out⟩, ⟨by repeat (first | (with_reducible first | exact HB.out | apply below_alloc | apply pw_below_drewN | apply below_drew1 | refine below_set ?_ GE122.out | refine below_set ?_ GE123.out) | exact HB.out)⟩⟩
    · replace c6 := Bool.eq_false_iff.mpr c6
      subst c6
      have H1 : (opt_Put.j0 k true a0_0 a0_1 a0_2 a0_3 a0_4 l0_5) = some (r1, r2, r3, r4, r5, r6) := by rw [if_neg (show ¬ (false = true) by decide)] at H; exact H
      clear H
      have H := H1
      clear H1
      have H' := Aside0.mk H
      clear H
      have hnb18 := NB122_123.out
      have hnc18 := NB123_122.out
      have hcz19_0 : w4.cell? ⟨gb122, 0, none⟩ = some (.int .i64 a0_0) := (blk_cell BK122.out 0).trans rfl
      have hcz19_1 : w4.cell? ⟨gb122, 1, none⟩ = some (.int .i64 a0_1) := (blk_cell BK122.out 1).trans rfl
      have hcz19_2 : w4.cell? ⟨gb122, 2, none⟩ = some (.int .i64 a0_2) := (blk_cell BK122.out 2).trans rfl
      have hcz19_3 : w4.cell? ⟨gb122, 3, none⟩ = some (.bool a0_3) := (blk_cell BK122.out 3).trans rfl
      have hcz19_4 : w4.cell? ⟨gb122, 4, none⟩ = some (.int .i64 a0_4) := (blk_cell BK122.out 4).trans rfl
      have hcz19_5 : w4.cell? ⟨gb122, 5, none⟩ = some (.slice A0_5 l0_5.length c0_5) := (blk_cell BK122.out 5).trans rfl
      have hfz19_0 := blk_frozen BK122.out 0
      have hfz19_1 := blk_frozen BK122.out 1
      have hfz19_2 := blk_frozen BK122.out 2
      have hfz19_3 := blk_frozen BK122.out 3
      have hfz19_4 := blk_frozen BK122.out 4
      have hfz19_5 := blk_frozen BK122.out 5
      go_wp2_with (first | ((with_reducible refine gate_dst (N := 10) rfl ?_); (try (refine gate_guard (by rfl) ?_; dsimp only)); (with_reducible refine gate_callee (f := 46) rfl ?_); refine goesL_ (some 10) rfl rfl Try.func46 (by kernel_rfl) rfl #[.int .i64 a0_0, .int .i64 65535] rfl (by (try simp only [List.map_toArray, List.map_cons, List.map_nil]); first | done | rfl | (simp only [List.length_drop, List.length_take]; rfl)) ?_; (with_reducible refine (opt_in.calls a0_0 65535 false _ A5.out).mono ?_); rintro e w' ⟨rfl, ⟨nd, rfl⟩⟩; refine ⟨_, rfl, ?_⟩))
      go_meet
      case rel => exact ⟨_, (true), (by first | rfl | (simp; done) | (simp [*]; done)), H', ⟨by first | omega | exact Nat.le_refl _⟩, ⟨by (with_reducible repeat (first | refine blk_drewN ?_ _ | refine blk_drew ?_ | refine blk_alloc ?_ _)); exact BK122.out⟩, ⟨by (with_reducible repeat (first | refine blk_drewN ?_ _ | refine blk_drew ?_ | refine blk_alloc ?_ _)); exact BK123.out⟩, ⟨by repeat (first | (with_reducible first | exact HB.out | apply below_alloc | apply pw_below_drewN | apply below_drew1 | refine below_set ?_ GE122.out | refine below_set ?_ GE123.out) | exact HB.out)⟩⟩
  case rest =>
    clear HC2
    try clear c1
    try clear p2
    try clear c4
    try clear c6
    try clear c8
    try clear c10
    try clear c12
    try clear c14
    try clear c16
    try clear c18
    try clear hcz13_0
    try clear hcz13_1
    try clear hcz13_2
    try clear hcz13_3
    try clear hcz13_4
    try clear hcz13_5
    try clear hcz15_0
    try clear hcz15_1
    try clear hcz15_2
    try clear hcz15_3
    try clear hcz15_4
    try clear hcz15_5
    try clear hcz17_0
    try clear hcz17_1
    try clear hcz17_2
    try clear hcz17_3
    try clear hcz17_4
    try clear hcz17_5
    try clear hcz19_0
    try clear hcz19_1
    try clear hcz19_2
    try clear hcz19_3
    try clear hcz19_4
    try clear hcz19_5
    try clear hfz13_0
    try clear hfz13_1
    try clear hfz13_2
    try clear hfz13_3
    try clear hfz13_4
    try clear hfz13_5
    try clear hfz15_0
    try clear hfz15_1
    try clear hfz15_2
    try clear hfz15_3
    try clear hfz15_4
    try clear hfz15_5
    try clear hfz17_0
    try clear hfz17_1
    try clear hfz17_2
    try clear hfz17_3
    try clear hfz17_4
    try clear hfz17_5
    try clear hfz19_0
    try clear hfz19_1
    try clear hfz19_2
    try clear hfz19_3
    try clear hfz19_4
    try clear hfz19_5
    obtain ⟨kq, x29_1, rfl, HA, HJ1, BK122, BK123, HB⟩ := hcut
    cases kq with
    | zero => exact absurd HA.out (by simp [opt_Put.j0])
    | succ kj1 =>
      have H := HA.out
      clear HA
      simp only [opt_Put.j0] at H
      by_cases c20 : x29_1 = true
      · subst c20
        have H1 : (some ((⟨#[]⟩ : ByteArray), 0, 0, 0, (⟨#[]⟩ : ByteArray), 800)) = some (r1, r2, r3, r4, r5, r6) := by rw [if_pos rfl] at H; exact H
        clear H
        have H := H1
        clear H1
        simp only [Option.some.injEq, Prod.mk.injEq] at H
        obtain ⟨rfl, rfl, rfl, rfl, rfl, rfl⟩ := H
        have hnb21 := NB123_122.out
        have hnc21 := NB122_123.out
        (try clear hcz13_0 hcz13_1 hcz13_2 hcz13_3 hcz13_4 hcz13_5 hfz13_0 hfz13_1 hfz13_2 hfz13_3 hfz13_4 hfz13_5)
        (try clear hcz15_0 hcz15_1 hcz15_2 hcz15_3 hcz15_4 hcz15_5 hfz15_0 hfz15_1 hfz15_2 hfz15_3 hfz15_4 hfz15_5)
        (try clear hcz17_0 hcz17_1 hcz17_2 hcz17_3 hcz17_4 hcz17_5 hfz17_0 hfz17_1 hfz17_2 hfz17_3 hfz17_4 hfz17_5)
        (try clear hcz19_0 hcz19_1 hcz19_2 hcz19_3 hcz19_4 hcz19_5 hfz19_0 hfz19_1 hfz19_2 hfz19_3 hfz19_4 hfz19_5)
        have hcz22_0 : wc.cell? ⟨gb123, 0, none⟩ = some (.string (⟨#[]⟩ : ByteArray)) := (blk_cell BK123.out 0).trans rfl
        have hcz22_1 : wc.cell? ⟨gb123, 1, none⟩ = some (.int .i64 0) := (blk_cell BK123.out 1).trans rfl
        have hcz22_2 : wc.cell? ⟨gb123, 2, none⟩ = some (.int .i64 0) := (blk_cell BK123.out 2).trans rfl
        have hcz22_3 : wc.cell? ⟨gb123, 3, none⟩ = some (.int .i64 0) := (blk_cell BK123.out 3).trans rfl
        have hcz22_4 : wc.cell? ⟨gb123, 4, none⟩ = some (.string (⟨#[]⟩ : ByteArray)) := (blk_cell BK123.out 4).trans rfl
        have hfz22_0 := blk_frozen BK123.out 0
        have hfz22_1 := blk_frozen BK123.out 1
        have hfz22_2 := blk_frozen BK123.out 2
        have hfz22_3 := blk_frozen BK123.out 3
        have hfz22_4 := blk_frozen BK123.out 4
        go_wp2
        refine bodyPost_ret (results_ct rfl _ _ gb123 26 #[.string (⟨#[]⟩ : ByteArray), .int .i64 0, .int .i64 0, .int .i64 0, .string (⟨#[]⟩ : ByteArray)] (0, 0) _ rfl (by (with_reducible repeat (first | refine blk_drewN ?_ _ | refine blk_drew ?_ | refine blk_alloc ?_ _)); refine blk_put (cs := #[.string (⟨#[]⟩ : ByteArray), .int .i64 0, .int .i64 0, .int .i64 0, .string (⟨#[]⟩ : ByteArray)]) ?_ 4 _ rfl; (with_reducible repeat (first | refine blk_drewN ?_ _ | refine blk_drew ?_ | refine blk_alloc ?_ _)); refine blk_put (cs := #[.string (⟨#[]⟩ : ByteArray), .int .i64 0, .int .i64 0, .int .i64 0, .string (⟨#[]⟩ : ByteArray)]) ?_ 3 _ rfl; (with_reducible repeat (first | refine blk_drewN ?_ _ | refine blk_drew ?_ | refine blk_alloc ?_ _)); refine blk_put (cs := #[.string (⟨#[]⟩ : ByteArray), .int .i64 0, .int .i64 0, .int .i64 0, .string (⟨#[]⟩ : ByteArray)]) ?_ 2 _ rfl; (with_reducible repeat (first | refine blk_drewN ?_ _ | refine blk_drew ?_ | refine blk_alloc ?_ _)); refine blk_put (cs := #[.string (⟨#[]⟩ : ByteArray), .int .i64 0, .int .i64 0, .int .i64 0, .string (⟨#[]⟩ : ByteArray)]) ?_ 1 _ rfl; (with_reducible repeat (first | refine blk_drewN ?_ _ | refine blk_drew ?_ | refine blk_alloc ?_ _)); refine blk_put (cs := #[.string (⟨#[]⟩ : ByteArray), .int .i64 0, .int .i64 0, .int .i64 0, .string (⟨#[]⟩ : ByteArray)]) ?_ 0 _ rfl; (with_reducible repeat (first | refine blk_drewN ?_ _ | refine blk_drew ?_ | refine blk_alloc ?_ _)); exact BK123.out) Try.underlying26 rfl (by kernel_rfl)) rfl ?_
        exact ⟨by first | rfl | (simp [errW_none, errW_some] <;> rfl) | (simp [*, errW_none, errW_some] <;> rfl), by repeat (first | (with_reducible first | exact HB.out | apply below_alloc | apply pw_below_drewN | apply below_drew1 | refine below_set ?_ GE122.out | refine below_set ?_ GE123.out) | exact HB.out)⟩
      · replace c20 := Bool.eq_false_iff.mpr c20
        subst c20
        have H1 : (opt_Put.l0 kj1 ([] : List Int) l0_5 (l0_5.length : Int) 0 a0_0 a0_1 a0_2 a0_3 a0_4 l0_5) = some (r1, r2, r3, r4, r5, r6) := by rw [if_neg (show ¬ (false = true) by decide)] at H; exact H
        clear H
        have H := H1
        clear H1
        have H' := Aside0.mk H
        clear H
        have hnb23 := NB122_123.out
        have hnc23 := NB123_122.out
        (try clear hcz13_0 hcz13_1 hcz13_2 hcz13_3 hcz13_4 hcz13_5 hfz13_0 hfz13_1 hfz13_2 hfz13_3 hfz13_4 hfz13_5)
        (try clear hcz15_0 hcz15_1 hcz15_2 hcz15_3 hcz15_4 hcz15_5 hfz15_0 hfz15_1 hfz15_2 hfz15_3 hfz15_4 hfz15_5)
        (try clear hcz17_0 hcz17_1 hcz17_2 hcz17_3 hcz17_4 hcz17_5 hfz17_0 hfz17_1 hfz17_2 hfz17_3 hfz17_4 hfz17_5)
        (try clear hcz19_0 hcz19_1 hcz19_2 hcz19_3 hcz19_4 hcz19_5 hfz19_0 hfz19_1 hfz19_2 hfz19_3 hfz19_4 hfz19_5)
        have hcz24_0 : wc.cell? ⟨gb122, 0, none⟩ = some (.int .i64 a0_0) := (blk_cell BK122.out 0).trans rfl
        have hcz24_1 : wc.cell? ⟨gb122, 1, none⟩ = some (.int .i64 a0_1) := (blk_cell BK122.out 1).trans rfl
        have hcz24_2 : wc.cell? ⟨gb122, 2, none⟩ = some (.int .i64 a0_2) := (blk_cell BK122.out 2).trans rfl
        have hcz24_3 : wc.cell? ⟨gb122, 3, none⟩ = some (.bool a0_3) := (blk_cell BK122.out 3).trans rfl
        have hcz24_4 : wc.cell? ⟨gb122, 4, none⟩ = some (.int .i64 a0_4) := (blk_cell BK122.out 4).trans rfl
        have hcz24_5 : wc.cell? ⟨gb122, 5, none⟩ = some (.slice A0_5 l0_5.length c0_5) := (blk_cell BK122.out 5).trans rfl
        have hfz24_0 := blk_frozen BK122.out 0
        have hfz24_1 := blk_frozen BK122.out 1
        have hfz24_2 := blk_frozen BK122.out 2
        have hfz24_3 := blk_frozen BK122.out 3
        have hfz24_4 := blk_frozen BK122.out 4
        have hfz24_5 := blk_frozen BK122.out 5
        go_wp2
        go_loopg [4, 34] kj1 (fun kq v4 v34 w' => ∃ (x4_2 : List Int) (x34_2 : Int) (x124000_2 : ByteArray) (x124001_2 : Int) (x124002_2 : Int) (x124003_2 : Int) (x124004_2 : ByteArray), v34 = .int .i64 x34_2 ∧ Aside0 (opt_Put.l0 kq x4_2 l0_5 (l0_5.length : Int) x34_2 a0_0 a0_1 a0_2 a0_3 a0_4 l0_5 = some (r1, r2, r3, r4, r5, r6)) ∧ Aside0 (kq ≤ kj1) ∧ Aside0 (Kd.R (Kd.int .u8) 5 w' w.heap.size (fun _ => True) v4 x4_2) ∧ Aside0 (w'.heap[gb122]? = some (.cells #[.int .i64 a0_0, .int .i64 a0_1, .int .i64 a0_2, .bool a0_3, .int .i64 a0_4, (.slice A0_5 l0_5.length c0_5)] 24 (0, 0))) ∧ Aside0 (w'.heap[gb123]? = some (.cells #[.string x124000_2, .int .i64 x124001_2, .int .i64 x124002_2, .int .i64 x124003_2, .string x124004_2] 26 (0, 0))) ∧ Aside0 (Below w.heap.size w w'))
        case atStart => exact ⟨(([] : List Int)), (0), ((⟨#[]⟩ : ByteArray)), (0), (0), (0), ((⟨#[]⟩ : ByteArray)), (by first | rfl | (simp; done) | (simp [*]; done)), H', ⟨Nat.le_refl _⟩, ⟨by first | exact Kd.R_nil _ _ _ _ _ | exact Kd.N_nil _ _ _ _ _ | exact Kd.V_nil _ _ _ _ _ | exact Kd.Q_nil _ _ _ _ _ | exact Kd.S_nil _ _ _ _ _⟩, ⟨by (with_reducible repeat (first | refine blk_drewN ?_ _ | refine blk_drew ?_ | refine blk_alloc ?_ _)); exact BK122.out⟩, ⟨by (with_reducible repeat (first | refine blk_drewN ?_ _ | refine blk_drew ?_ | refine blk_alloc ?_ _)); exact BK123.out⟩, ⟨by repeat (first | (with_reducible first | exact HB.out | apply below_alloc | apply pw_below_drewN | apply below_drew1 | refine below_set ?_ GE122.out | refine below_set ?_ GE123.out) | exact HB.out)⟩⟩
        case round =>
          clear H'
          try clear c1
          try clear c2
          try clear p2
          try clear c4
          try clear c6
          try clear c8
          try clear c10
          try clear c12
          try clear c14
          try clear c16
          try clear c18
          try clear c20
          try clear c21
          try clear c23
          try clear hcz13_0
          try clear hcz13_1
          try clear hcz13_2
          try clear hcz13_3
          try clear hcz13_4
          try clear hcz13_5
          try clear hcz15_0
          try clear hcz15_1
          try clear hcz15_2
          try clear hcz15_3
          try clear hcz15_4
          try clear hcz15_5
          try clear hcz17_0
          try clear hcz17_1
          try clear hcz17_2
          try clear hcz17_3
          try clear hcz17_4
          try clear hcz17_5
          try clear hcz19_0
          try clear hcz19_1
          try clear hcz19_2
          try clear hcz19_3
          try clear hcz19_4
          try clear hcz19_5
          try clear hcz22_0
          try clear hcz22_1
          try clear hcz22_2
          try clear hcz22_3
          try clear hcz22_4
          try clear hcz24_0
          try clear hcz24_1
          try clear hcz24_2
          try clear hcz24_3
          try clear hcz24_4
          try clear hcz24_5
          try clear hfz13_0
          try clear hfz13_1
          try clear hfz13_2
          try clear hfz13_3
          try clear hfz13_4
          try clear hfz13_5
          try clear hfz15_0
          try clear hfz15_1
          try clear hfz15_2
          try clear hfz15_3
          try clear hfz15_4
          try clear hfz15_5
          try clear hfz17_0
          try clear hfz17_1
          try clear hfz17_2
          try clear hfz17_3
          try clear hfz17_4
          try clear hfz17_5
          try clear hfz19_0
          try clear hfz19_1
          try clear hfz19_2
          try clear hfz19_3
          try clear hfz19_4
          try clear hfz19_5
          try clear hfz22_0
          try clear hfz22_1
          try clear hfz22_2
          try clear hfz22_3
          try clear hfz22_4
          try clear hfz24_0
          try clear hfz24_1
          try clear hfz24_2
          try clear hfz24_3
          try clear hfz24_4
          try clear hfz24_5
          try clear p2
          obtain ⟨x4_2, x34_2, x124000_2, x124001_2, x124002_2, x124003_2, x124004_2, rfl, HA, HK2, HO_4, BK122, BK123, HB⟩ := hrel
          cases gk with
          | zero => exact absurd HA.out (by simp [opt_Put.l0])
          | succ k2 =>
            have H := HA.out
            clear HA
            simp only [opt_Put.l0] at H
            by_cases c25 : x34_2 < (l0_5.length : Int)
            · rw [if_pos c25] at H
              have c25b0 : decide (x34_2 < (l0_5.length : Int)) = true := decide_eq_true c25
              clear c25
              by_cases c26 : 0 ≤ x34_2
              · rw [if_pos c26] at H
                have c26b0 : decide (0 ≤ x34_2) = true := decide_eq_true c26
                clear c26
                by_cases c27 : x34_2 < (l0_5.length : Int)
                · rw [if_pos c27] at H
                  have c27b0 : decide (x34_2 < (l0_5.length : Int)) = true := decide_eq_true c27
                  clear c27
                  have HC28 := Aside0.mk H
                  clear H
                  have p128 : 0 ≤ (x34_2 : Int) := of_decide_eq_true (by first | (with_reducible assumption) | assumption)
                  have q128 : x34_2 < (l0_5.length : Int) := of_decide_eq_true (by first | (with_reducible assumption) | assumption)
                  obtain ⟨ad128, e128, hx128_0, hx128_1⟩ := at_T52 HR0_5.out x34_2 p128 q128
                  cases e128
                  replace hx128_0 := (HB.out.cell (World.block_lt_of_cell? w _ hx128_0)).trans hx128_0
                  replace hx128_1 := (HB.out.cell (World.block_lt_of_cell? w _ hx128_1)).trans hx128_1
                  replace p128 := eq_true p128
                  replace q128 := eq_true q128
                  go_upto_region 7 with (first | ((with_reducible refine gate_dst (N := 6) rfl ?_); (try (refine gate_guard (by rfl) ?_; dsimp only)); refine box_event ?hg (N := 6) ?hd (cs := #[.int .i64 0, .string (⟨#[]⟩ : ByteArray)]) (t := 52) ?hr ?_; (case hd => rfl); (case hg => rfl); (case hr => first | (go_simp; done) | (go_simp; rfl)); intro gb129 hg w29 hbox hb; have n0_ := Aside0.mk (Kd.R_below (by (with_reducible repeat (first | apply Kd.R_alloc | apply Kd.R_drewN | apply Kd.R_drew)); exact HO_4.out) hb); have n1_ := Aside0.mk (blk_below (g := gb122) (o := .cells #[.int .i64 a0_0, .int .i64 a0_1, .int .i64 a0_2, .bool a0_3, .int .i64 a0_4, .slice (some ad128) l0_5.length c0_5] 24 (0, 0)) (by (with_reducible repeat (first | refine blk_drewN ?_ _ | refine blk_drew ?_ | refine blk_alloc ?_ _)); exact BK122.out) hb); have n2_ := Aside0.mk (blk_below (g := gb123) (o := .cells #[.string x124000_2, .int .i64 x124001_2, .int .i64 x124002_2, .int .i64 x124003_2, .string x124004_2] 26 (0, 0)) (by (with_reducible repeat (first | refine blk_drewN ?_ _ | refine blk_drew ?_ | refine blk_alloc ?_ _)); exact BK123.out) hb); have n3_ := Aside0.mk (below_step (by repeat (first | (with_reducible first | exact HB.out | apply below_alloc | apply pw_below_drewN | apply below_drew1 | refine below_set ?_ GE122.out | refine below_set ?_ GE123.out) | exact HB.out)) hb); have n4_ := Aside0.mk (hbox); have n5_ := Aside0.mk ((by rw [hg]; exact (below_size (by repeat (first | (with_reducible first | exact HB.out | apply below_alloc | apply pw_below_drewN | apply below_drew1 | refine below_set ?_ GE122.out | refine below_set ?_ GE123.out) | exact HB.out))) : w.heap.size ≤ gb129)); have n6_ := Aside0.mk ((by rw [hg]; exact (below_size (by repeat (first | (with_reducible first | exact HB.out | apply below_alloc | apply pw_below_drewN | apply below_drew1 | refine below_set ?_ GE122.out | refine below_set ?_ GE123.out) | exact HB.out))) : w.heap.size ≤ gb129)); have n7_ := Aside0.mk ((by rw [hg]; exact Nat.ne_of_lt (blk_lt (g := gb122) (o := .cells #[.int .i64 a0_0, .int .i64 a0_1, .int .i64 a0_2, .bool a0_3, .int .i64 a0_4, .slice (some ad128) l0_5.length c0_5] 24 (0, 0)) (by (with_reducible repeat (first | refine blk_drewN ?_ _ | refine blk_drew ?_ | refine blk_alloc ?_ _)); exact BK122.out)) : gb122 ≠ gb129)); have n8_ := Aside0.mk ((by rw [hg]; exact Nat.ne_of_gt (blk_lt (g := gb122) (o := .cells #[.int .i64 a0_0, .int .i64 a0_1, .int .i64 a0_2, .bool a0_3, .int .i64 a0_4, .slice (some ad128) l0_5.length c0_5] 24 (0, 0)) (by (with_reducible repeat (first | refine blk_drewN ?_ _ | refine blk_drew ?_ | refine blk_alloc ?_ _)); exact BK122.out)) : gb129 ≠ gb122)); have n9_ := Aside0.mk ((by rw [hg]; exact Nat.ne_of_lt (blk_lt (g := gb123) (o := .cells #[.string x124000_2, .int .i64 x124001_2, .int .i64 x124002_2, .int .i64 x124003_2, .string x124004_2] 26 (0, 0)) (by (with_reducible repeat (first | refine blk_drewN ?_ _ | refine blk_drew ?_ | refine blk_alloc ?_ _)); exact BK123.out)) : gb123 ≠ gb129)); have n10_ := Aside0.mk ((by rw [hg]; exact Nat.ne_of_gt (blk_lt (g := gb123) (o := .cells #[.string x124000_2, .int .i64 x124001_2, .int .i64 x124002_2, .int .i64 x124003_2, .string x124004_2] 26 (0, 0)) (by (with_reducible repeat (first | refine blk_drewN ?_ _ | refine blk_drew ?_ | refine blk_alloc ?_ _)); exact BK123.out)) : gb129 ≠ gb123)); clear HO_4; clear BK122; clear BK123; clear HB; have HO_4 := n0_; have BK122 := n1_; have BK123 := n2_; have HB := n3_; have BK129 := n4_; have GW129 := n5_; have GE129 := n6_; have NB122_129 := n7_; have NB129_122 := n8_; have NB123_129 := n9_; have NB129_123 := n10_; clear n0_ n1_ n2_ n3_ n4_ n5_ n6_ n7_ n8_ n9_ n10_; clear hb hbox hg; have hnb30 := NB129_122.out; have hnc30 := NB122_129.out; have hnb31 := NB129_123.out; have hnc31 := NB123_129.out; (try clear hcz13_0 hcz13_1 hcz13_2 hcz13_3 hcz13_4 hcz13_5 hfz13_0 hfz13_1 hfz13_2 hfz13_3 hfz13_4 hfz13_5); (try clear hcz15_0 hcz15_1 hcz15_2 hcz15_3 hcz15_4 hcz15_5 hfz15_0 hfz15_1 hfz15_2 hfz15_3 hfz15_4 hfz15_5); (try clear hcz17_0 hcz17_1 hcz17_2 hcz17_3 hcz17_4 hcz17_5 hfz17_0 hfz17_1 hfz17_2 hfz17_3 hfz17_4 hfz17_5); (try clear hcz19_0 hcz19_1 hcz19_2 hcz19_3 hcz19_4 hcz19_5 hfz19_0 hfz19_1 hfz19_2 hfz19_3 hfz19_4 hfz19_5); (try clear hcz22_0 hcz22_1 hcz22_2 hcz22_3 hcz22_4 hfz22_0 hfz22_1 hfz22_2 hfz22_3 hfz22_4); (try clear hcz24_0 hcz24_1 hcz24_2 hcz24_3 hcz24_4 hcz24_5 hfz24_0 hfz24_1 hfz24_2 hfz24_3 hfz24_4 hfz24_5); have hcz32_0 : w29.cell? ⟨gb129, 0, none⟩ = some (.int .i64 0) := (blk_cell BK129.out 0).trans rfl; have hcz32_1 : w29.cell? ⟨gb129, 1, none⟩ = some (.string (⟨#[]⟩ : ByteArray)) := (blk_cell BK129.out 1).trans rfl; have hfz32_0 := blk_frozen BK129.out 0; have hfz32_1 := blk_frozen BK129.out 1))
                  (try simp only [Act.put, List.setIfInBounds_toArray, List.set_cons_zero, List.set_cons_succ])
                  go_cut [47] (fun v47 wc => ∃ (kq : Nat) (x47_27 : Bool), v47 = .bool x47_27 ∧ Aside0 (opt_Put.j2 kq x4_2 l0_5 (l0_5.length : Int) x34_2 x47_27 a0_0 a0_1 a0_2 a0_3 a0_4 l0_5 ((rd_T52 l0_5 x34_2).f0) ((rd_T52 l0_5 x34_2).f1) = some (r1, r2, r3, r4, r5, r6)) ∧ Aside0 (kq ≤ k2) ∧ Aside0 (Kd.R (Kd.int .u8) 5 wc w.heap.size (fun _ => True) u4 x4_2) ∧ Aside0 (wc.heap[gb122]? = some (.cells #[.int .i64 a0_0, .int .i64 a0_1, .int .i64 a0_2, .bool a0_3, .int .i64 a0_4, (.slice (some ad128) l0_5.length c0_5)] 24 (0, 0))) ∧ Aside0 (wc.heap[gb123]? = some (.cells #[.string x124000_2, .int .i64 x124001_2, .int .i64 x124002_2, .int .i64 x124003_2, .string x124004_2] 26 (0, 0))) ∧ Aside0 (wc.heap[gb129]? = some (.cells #[.int .i64 ((rd_T52 l0_5 x34_2).f0), .string ((rd_T52 l0_5 x34_2).f1)] 52 (0, 0))) ∧ Aside0 (Below w.heap.size w wc))
                  case first =>
                    have H := HC28.out
                    clear HC28
                    replace H := Option.bind_eq_some_iff.mp H
                    obtain ⟨t130, A330, H⟩ := H
                    replace H : (if t130 = true then (opt_Put.j2 k2 x4_2 l0_5 (l0_5.length : Int) x34_2 (decide ((((rd_T52 l0_5 x34_2).f1).size : Int) > 65535)) a0_0 a0_1 a0_2 a0_3 a0_4 l0_5 ((rd_T52 l0_5 x34_2).f0) ((rd_T52 l0_5 x34_2).f1)) else (opt_Put.j2 k2 x4_2 l0_5 (l0_5.length : Int) x34_2 true a0_0 a0_1 a0_2 a0_3 a0_4 l0_5 ((rd_T52 l0_5 x34_2).f0) ((rd_T52 l0_5 x34_2).f1))) = some (r1, r2, r3, r4, r5, r6) := H
                    have A33 := Aside0.mk A330
                    clear A330
                    by_cases c34 : t130 = true
                    · subst c34
                      have H1 : (opt_Put.j2 k2 x4_2 l0_5 (l0_5.length : Int) x34_2 (decide ((((rd_T52 l0_5 x34_2).f1).size : Int) > 65535)) a0_0 a0_1 a0_2 a0_3 a0_4 l0_5 ((rd_T52 l0_5 x34_2).f0) ((rd_T52 l0_5 x34_2).f1)) = some (r1, r2, r3, r4, r5, r6) := by rw [if_pos rfl] at H; exact H
                      clear H
                      have H := H1
                      clear H1
                      have H' := Aside0.mk H
                      clear H
                      have hnb35 := NB129_122.out
                      have hnc35 := NB122_129.out
                      have hnb36 := NB129_123.out
                      have hnc36 := NB123_129.out
                      (try clear hcz15_0 hcz15_1 hcz15_2 hcz15_3 hcz15_4 hcz15_5 hfz15_0 hfz15_1 hfz15_2 hfz15_3 hfz15_4 hfz15_5)
                      (try clear hcz17_0 hcz17_1 hcz17_2 hcz17_3 hcz17_4 hcz17_5 hfz17_0 hfz17_1 hfz17_2 hfz17_3 hfz17_4 hfz17_5)
                      (try clear hcz19_0 hcz19_1 hcz19_2 hcz19_3 hcz19_4 hcz19_5 hfz19_0 hfz19_1 hfz19_2 hfz19_3 hfz19_4 hfz19_5)
                      (try clear hcz22_0 hcz22_1 hcz22_2 hcz22_3 hcz22_4 hfz22_0 hfz22_1 hfz22_2 hfz22_3 hfz22_4)
                      (try clear hcz24_0 hcz24_1 hcz24_2 hcz24_3 hcz24_4 hcz24_5 hfz24_0 hfz24_1 hfz24_2 hfz24_3 hfz24_4 hfz24_5)
                      have hcz37_0 : w29.cell? ⟨gb129, 0, none⟩ = some (.int .i64 0) := (blk_cell BK129.out 0).trans rfl
                      have hcz37_1 : w29.cell? ⟨gb129, 1, none⟩ = some (.string (⟨#[]⟩ : ByteArray)) := (blk_cell BK129.out 1).trans rfl
                      have hfz37_0 := blk_frozen BK129.out 0
                      have hfz37_1 := blk_frozen BK129.out 1
                      go_wp2_with (first | ((with_reducible refine gate_dst (N := 40) rfl ?_); (try (refine gate_guard (by rfl) ?_; dsimp only)); (with_reducible refine gate_callee (f := 46) rfl ?_); refine goesL_ (some 40) rfl rfl Try.func46 (by kernel_rfl) rfl #[.int .i64 ((rd_T52 l0_5 x34_2).f0), .int .i64 65535] rfl (by (try simp only [List.map_toArray, List.map_cons, List.map_nil]); first | done | rfl | (simp only [List.length_drop, List.length_take]; rfl)) ?_; (with_reducible refine (opt_in.calls ((rd_T52 l0_5 x34_2).f0) 65535 true _ A33.out).mono ?_); rintro e w' ⟨rfl, ⟨nd, rfl⟩⟩; refine ⟨_, rfl, ?_⟩))
                      go_meet
                      case rel => exact ⟨_, (decide ((((rd_T52 l0_5 x34_2).f1).size : Int) > 65535)), (by first | rfl | (simp; done) | (simp [*]; done)), H', ⟨by have := HJ1.out; have := HK2.out; first | omega | exact Nat.le_refl _⟩, ⟨by (with_reducible repeat (first | apply Kd.R_alloc | apply Kd.R_drewN | apply Kd.R_drew)); exact Kd.R_mono (Kd.R_far (p := ⟨gb129, 1, none⟩) (Kd.R_far (p := ⟨gb129, 0, none⟩) (Kd.R_types HO_4.out BK129.out (by decide)) (fun _ hk => hk.2) (.int .i64 ((rd_T52 l0_5 x34_2).f0))) (fun _ hk => hk.2) (.string ((rd_T52 l0_5 x34_2).f1))) (fun _ hk => trivial)⟩, ⟨by (with_reducible repeat (first | refine blk_drewN ?_ _ | refine blk_drew ?_ | refine blk_alloc ?_ _)); refine blk_far ?_ NB122_129.out _; (with_reducible repeat (first | refine blk_drewN ?_ _ | refine blk_drew ?_ | refine blk_alloc ?_ _)); refine blk_far ?_ NB122_129.out _; (with_reducible repeat (first | refine blk_drewN ?_ _ | refine blk_drew ?_ | refine blk_alloc ?_ _)); exact BK122.out⟩, ⟨by (with_reducible repeat (first | refine blk_drewN ?_ _ | refine blk_drew ?_ | refine blk_alloc ?_ _)); refine blk_far ?_ NB123_129.out _; (with_reducible repeat (first | refine blk_drewN ?_ _ | refine blk_drew ?_ | refine blk_alloc ?_ _)); refine blk_far ?_ NB123_129.out _; (with_reducible repeat (first | refine blk_drewN ?_ _ | refine blk_drew ?_ | refine blk_alloc ?_ _)); exact BK123.out⟩, ⟨by (with_reducible repeat (first | refine blk_drewN ?_ _ | refine blk_drew ?_ | refine blk_alloc ?_ _)); refine blk_put (cs := #[.int .i64 ((rd_T52 l0_5 x34_2).f0), .string (⟨#[]⟩ : ByteArray)]) ?_ 1 _ rfl; (with_reducible repeat (first | refine blk_drewN ?_ _ | refine blk_drew ?_ | refine blk_alloc ?_ _)); refine blk_put (cs := #[.int .i64 0, .string (⟨#[]⟩ : ByteArray)]) ?_ 0 _ rfl; (with_reducible repeat (first | refine blk_drewN ?_ _ | refine blk_drew ?_ | refine blk_alloc ?_ _)); exact BK129.out⟩, ⟨by repeat (first | (with_reducible first | exact HB.out | apply below_alloc | apply pw_below_drewN | apply below_drew1 | refine below_set ?_ GE122.out | refine below_set ?_ GE123.out | refine below_set ?_ GE129.out) | exact HB.out)⟩⟩
                    · replace c34 := Bool.eq_false_iff.mpr c34
                      subst c34
                      have H1 : (opt_Put.j2 k2 x4_2 l0_5 (l0_5.length : Int) x34_2 true a0_0 a0_1 a0_2 a0_3 a0_4 l0_5 ((rd_T52 l0_5 x34_2).f0) ((rd_T52 l0_5 x34_2).f1)) = some (r1, r2, r3, r4, r5, r6) := by rw [if_neg (show ¬ (false = true) by decide)] at H; exact H
                      clear H
                      have H := H1
                      clear H1
                      have H' := Aside0.mk H
                      clear H
                      have hnb38 := NB129_122.out
                      have hnc38 := NB122_129.out
                      have hnb39 := NB129_123.out
                      have hnc39 := NB123_129.out
                      (try clear hcz17_0 hcz17_1 hcz17_2 hcz17_3 hcz17_4 hcz17_5 hfz17_0 hfz17_1 hfz17_2 hfz17_3 hfz17_4 hfz17_5)
                      (try clear hcz19_0 hcz19_1 hcz19_2 hcz19_3 hcz19_4 hcz19_5 hfz19_0 hfz19_1 hfz19_2 hfz19_3 hfz19_4 hfz19_5)
                      (try clear hcz22_0 hcz22_1 hcz22_2 hcz22_3 hcz22_4 hfz22_0 hfz22_1 hfz22_2 hfz22_3 hfz22_4)
                      (try clear hcz24_0 hcz24_1 hcz24_2 hcz24_3 hcz24_4 hcz24_5 hfz24_0 hfz24_1 hfz24_2 hfz24_3 hfz24_4 hfz24_5)
                      have hcz40_0 : w29.cell? ⟨gb129, 0, none⟩ = some (.int .i64 0) := (blk_cell BK129.out 0).trans rfl
                      have hcz40_1 : w29.cell? ⟨gb129, 1, none⟩ = some (.string (⟨#[]⟩ : ByteArray)) := (blk_cell BK129.out 1).trans rfl
                      have hfz40_0 := blk_frozen BK129.out 0
                      have hfz40_1 := blk_frozen BK129.out 1
                      go_wp2_with (first | ((with_reducible refine gate_dst (N := 40) rfl ?_); (try (refine gate_guard (by rfl) ?_; dsimp only)); (with_reducible refine gate_callee (f := 46) rfl ?_); refine goesL_ (some 40) rfl rfl Try.func46 (by kernel_rfl) rfl #[.int .i64 ((rd_T52 l0_5 x34_2).f0), .int .i64 65535] rfl (by (try simp only [List.map_toArray, List.map_cons, List.map_nil]); first | done | rfl | (simp only [List.length_drop, List.length_take]; rfl)) ?_; (with_reducible refine (opt_in.calls ((rd_T52 l0_5 x34_2).f0) 65535 false _ A33.out).mono ?_); rintro e w' ⟨rfl, ⟨nd, rfl⟩⟩; refine ⟨_, rfl, ?_⟩))
                      go_meet
                      case rel => exact ⟨_, (true), (by first | rfl | (simp; done) | (simp [*]; done)), H', ⟨by have := HJ1.out; have := HK2.out; first | omega | exact Nat.le_refl _⟩, ⟨by (with_reducible repeat (first | apply Kd.R_alloc | apply Kd.R_drewN | apply Kd.R_drew)); exact Kd.R_mono (Kd.R_far (p := ⟨gb129, 1, none⟩) (Kd.R_far (p := ⟨gb129, 0, none⟩) (Kd.R_types HO_4.out BK129.out (by decide)) (fun _ hk => hk.2) (.int .i64 ((rd_T52 l0_5 x34_2).f0))) (fun _ hk => hk.2) (.string ((rd_T52 l0_5 x34_2).f1))) (fun _ hk => trivial)⟩, ⟨by (with_reducible repeat (first | refine blk_drewN ?_ _ | refine blk_drew ?_ | refine blk_alloc ?_ _)); refine blk_far ?_ NB122_129.out _; (with_reducible repeat (first | refine blk_drewN ?_ _ | refine blk_drew ?_ | refine blk_alloc ?_ _)); refine blk_far ?_ NB122_129.out _; (with_reducible repeat (first | refine blk_drewN ?_ _ | refine blk_drew ?_ | refine blk_alloc ?_ _)); exact BK122.out⟩, ⟨by (with_reducible repeat (first | refine blk_drewN ?_ _ | refine blk_drew ?_ | refine blk_alloc ?_ _)); refine blk_far ?_ NB123_129.out _; (with_reducible repeat (first | refine blk_drewN ?_ _ | refine blk_drew ?_ | refine blk_alloc ?_ _)); refine blk_far ?_ NB123_129.out _; (with_reducible repeat (first | refine blk_drewN ?_ _ | refine blk_drew ?_ | refine blk_alloc ?_ _)); exact BK123.out⟩, ⟨by (with_reducible repeat (first | refine blk_drewN ?_ _ | refine blk_drew ?_ | refine blk_alloc ?_ _)); refine blk_put (cs := #[.int .i64 ((rd_T52 l0_5 x34_2).f0), .string (⟨#[]⟩ : ByteArray)]) ?_ 1 _ rfl; (with_reducible repeat (first | refine blk_drewN ?_ _ | refine blk_drew ?_ | refine blk_alloc ?_ _)); refine blk_put (cs := #[.int .i64 0, .string (⟨#[]⟩ : ByteArray)]) ?_ 0 _ rfl; (with_reducible repeat (first | refine blk_drewN ?_ _ | refine blk_drew ?_ | refine blk_alloc ?_ _)); exact BK129.out⟩, ⟨by repeat (first | (with_reducible first | exact HB.out | apply below_alloc | apply pw_below_drewN | apply below_drew1 | refine below_set ?_ GE122.out | refine below_set ?_ GE123.out | refine below_set ?_ GE129.out) | exact HB.out)⟩⟩
                  case rest =>
                    clear HC28
                    try clear c1
                    try clear p1
                    try clear q1
                    try clear hx1
                    try clear c2
                    try clear p2
                    try clear c3
                    try clear c4
                    try clear c6
                    try clear c8
                    try clear c10
                    try clear c12
                    try clear p12
                    try clear q12
                    try clear hx12
                    try clear c14
                    try clear c16
                    try clear c18
                    try clear c20
                    try clear c21
                    try clear c23
                    try clear c25
                    try clear c25b0
                    try clear c26
                    try clear c26b0
                    try clear c27
                    try clear c27b0
                    try clear c30
                    try clear c31
                    try clear c34
                    try clear c35
                    try clear c36
                    try clear c38
                    try clear c39
                    try clear hcz13_0
                    try clear hcz13_1
                    try clear hcz13_2
                    try clear hcz13_3
                    try clear hcz13_4
                    try clear hcz13_5
                    try clear hcz15_0
                    try clear hcz15_1
                    try clear hcz15_2
                    try clear hcz15_3
                    try clear hcz15_4
                    try clear hcz15_5
                    try clear hcz17_0
                    try clear hcz17_1
                    try clear hcz17_2
                    try clear hcz17_3
                    try clear hcz17_4
                    try clear hcz17_5
                    try clear hcz19_0
                    try clear hcz19_1
                    try clear hcz19_2
                    try clear hcz19_3
                    try clear hcz19_4
                    try clear hcz19_5
                    try clear hcz22_0
                    try clear hcz22_1
                    try clear hcz22_2
                    try clear hcz22_3
                    try clear hcz22_4
                    try clear hcz24_0
                    try clear hcz24_1
                    try clear hcz24_2
                    try clear hcz24_3
                    try clear hcz24_4
                    try clear hcz24_5
                    try clear hcz32_0
                    try clear hcz32_1
                    try clear hcz37_0
                    try clear hcz37_1
                    try clear hcz40_0
                    try clear hcz40_1
                    try clear hfz13_0
                    try clear hfz13_1
                    try clear hfz13_2
                    try clear hfz13_3
                    try clear hfz13_4
                    try clear hfz13_5
                    try clear hfz15_0
                    try clear hfz15_1
                    try clear hfz15_2
                    try clear hfz15_3
                    try clear hfz15_4
                    try clear hfz15_5
                    try clear hfz17_0
                    try clear hfz17_1
                    try clear hfz17_2
                    try clear hfz17_3
                    try clear hfz17_4
                    try clear hfz17_5
                    try clear hfz19_0
                    try clear hfz19_1
                    try clear hfz19_2
                    try clear hfz19_3
                    try clear hfz19_4
                    try clear hfz19_5
                    try clear hfz22_0
                    try clear hfz22_1
                    try clear hfz22_2
                    try clear hfz22_3
                    try clear hfz22_4
                    try clear hfz24_0
                    try clear hfz24_1
                    try clear hfz24_2
                    try clear hfz24_3
                    try clear hfz24_4
                    try clear hfz24_5
                    try clear hfz32_0
                    try clear hfz32_1
                    try clear hfz37_0
                    try clear hfz37_1
                    try clear hfz40_0
                    try clear hfz40_1
                    try clear hx128_0
                    try clear hx128_1
                    try clear p128
                    try clear p2
                    try clear q128
                    obtain ⟨kq, x47_27, rfl, HA, HJ27, HO_4, BK122, BK123, BK129, HB⟩ := hcut
                    cases kq with
                    | zero => exact absurd HA.out (by simp [opt_Put.j2])
                    | succ kj27 =>
                      have H := HA.out
                      clear HA
                      simp only [opt_Put.j2] at H
                      by_cases c41 : x47_27 = true
                      · subst c41
                        have H1 : (some ((⟨#[]⟩ : ByteArray), 0, 0, 0, (⟨#[]⟩ : ByteArray), 800)) = some (r1, r2, r3, r4, r5, r6) := by rw [if_pos rfl] at H; exact H
                        clear H
                        have H := H1
                        clear H1
                        simp only [Option.some.injEq, Prod.mk.injEq] at H
                        obtain ⟨rfl, rfl, rfl, rfl, rfl, rfl⟩ := H
                        have hnb42 := NB123_122.out
                        have hnc42 := NB122_123.out
                        have hnb43 := NB123_129.out
                        have hnc43 := NB129_123.out
                        (try clear hcz19_0 hcz19_1 hcz19_2 hcz19_3 hcz19_4 hcz19_5 hfz19_0 hfz19_1 hfz19_2 hfz19_3 hfz19_4 hfz19_5)
                        (try clear hcz32_0 hcz32_1 hfz32_0 hfz32_1)
                        (try clear hcz37_0 hcz37_1 hfz37_0 hfz37_1)
                        (try clear hcz40_0 hcz40_1 hfz40_0 hfz40_1)
                        have hcz44_0 : wc.cell? ⟨gb123, 0, none⟩ = some (.string x124000_2) := (blk_cell BK123.out 0).trans rfl
                        have hcz44_1 : wc.cell? ⟨gb123, 1, none⟩ = some (.int .i64 x124001_2) := (blk_cell BK123.out 1).trans rfl
                        have hcz44_2 : wc.cell? ⟨gb123, 2, none⟩ = some (.int .i64 x124002_2) := (blk_cell BK123.out 2).trans rfl
                        have hcz44_3 : wc.cell? ⟨gb123, 3, none⟩ = some (.int .i64 x124003_2) := (blk_cell BK123.out 3).trans rfl
                        have hcz44_4 : wc.cell? ⟨gb123, 4, none⟩ = some (.string x124004_2) := (blk_cell BK123.out 4).trans rfl
                        have hfz44_0 := blk_frozen BK123.out 0
                        have hfz44_1 := blk_frozen BK123.out 1
                        have hfz44_2 := blk_frozen BK123.out 2
                        have hfz44_3 := blk_frozen BK123.out 3
                        have hfz44_4 := blk_frozen BK123.out 4
                        go_wp2
                        refine bodyPost_ret (results_ct rfl _ _ gb123 26 #[.string (⟨#[]⟩ : ByteArray), .int .i64 0, .int .i64 0, .int .i64 0, .string (⟨#[]⟩ : ByteArray)] (0, 0) _ rfl (by (with_reducible repeat (first | refine blk_drewN ?_ _ | refine blk_drew ?_ | refine blk_alloc ?_ _)); refine blk_put (cs := #[.string (⟨#[]⟩ : ByteArray), .int .i64 0, .int .i64 0, .int .i64 0, .string x124004_2]) ?_ 4 _ rfl; (with_reducible repeat (first | refine blk_drewN ?_ _ | refine blk_drew ?_ | refine blk_alloc ?_ _)); refine blk_put (cs := #[.string (⟨#[]⟩ : ByteArray), .int .i64 0, .int .i64 0, .int .i64 x124003_2, .string x124004_2]) ?_ 3 _ rfl; (with_reducible repeat (first | refine blk_drewN ?_ _ | refine blk_drew ?_ | refine blk_alloc ?_ _)); refine blk_put (cs := #[.string (⟨#[]⟩ : ByteArray), .int .i64 0, .int .i64 x124002_2, .int .i64 x124003_2, .string x124004_2]) ?_ 2 _ rfl; (with_reducible repeat (first | refine blk_drewN ?_ _ | refine blk_drew ?_ | refine blk_alloc ?_ _)); refine blk_put (cs := #[.string (⟨#[]⟩ : ByteArray), .int .i64 x124001_2, .int .i64 x124002_2, .int .i64 x124003_2, .string x124004_2]) ?_ 1 _ rfl; (with_reducible repeat (first | refine blk_drewN ?_ _ | refine blk_drew ?_ | refine blk_alloc ?_ _)); refine blk_put (cs := #[.string x124000_2, .int .i64 x124001_2, .int .i64 x124002_2, .int .i64 x124003_2, .string x124004_2]) ?_ 0 _ rfl; (with_reducible repeat (first | refine blk_drewN ?_ _ | refine blk_drew ?_ | refine blk_alloc ?_ _)); exact BK123.out) Try.underlying26 rfl (by kernel_rfl)) rfl ?_
                        exact ⟨by first | rfl | (simp [errW_none, errW_some] <;> rfl) | (simp [*, errW_none, errW_some] <;> rfl), by repeat (first | (with_reducible first | exact HB.out | apply below_alloc | apply pw_below_drewN | apply below_drew1 | refine below_set ?_ GE122.out | refine below_set ?_ GE123.out | refine below_set ?_ GE129.out) | exact HB.out)⟩
                      · replace c41 := Bool.eq_false_iff.mpr c41
                        subst c41
                        have H1 : ((octet_Put16.f ((rd_T52 l0_5 x34_2).f0)).bind fun t131 => ((octet_Put16.f (((rd_T52 l0_5 x34_2).f1).size : Int)).bind fun t132 => (if t131.size + t132.size ≤ 9223372036854775807 then (if x4_2.length + (t131 ++ t132).size < 140737488355328 then ((some (x4_2 ++ bytesOf (t131 ++ t132) : List Int)).bind fun y133 => (if y133.length + ((rd_T52 l0_5 x34_2).f1).size < 140737488355328 then ((some (y133 ++ bytesOf ((rd_T52 l0_5 x34_2).f1) : List Int)).bind fun y136 => (if (y136.length : Int) > 65535 then (some ((⟨#[]⟩ : ByteArray), 0, 0, 0, (⟨#[]⟩ : ByteArray), 800)) else (opt_Put.l0 kj27 y136 l0_5 (l0_5.length : Int) (wrap64 (x34_2 + 1)) a0_0 a0_1 a0_2 a0_3 a0_4 l0_5))) else (none))) else (none)) else (none)))) = some (r1, r2, r3, r4, r5, r6) := by rw [if_neg (show ¬ (false = true) by decide)] at H; exact H
                        clear H
                        have H := H1
                        clear H1
                        replace H := Option.bind_eq_some_iff.mp H
                        obtain ⟨t131, A450, H⟩ := H
                        replace H : ((octet_Put16.f (((rd_T52 l0_5 x34_2).f1).size : Int)).bind fun t132 => (if t131.size + t132.size ≤ 9223372036854775807 then (if x4_2.length + (t131 ++ t132).size < 140737488355328 then ((some (x4_2 ++ bytesOf (t131 ++ t132) : List Int)).bind fun y133 => (if y133.length + ((rd_T52 l0_5 x34_2).f1).size < 140737488355328 then ((some (y133 ++ bytesOf ((rd_T52 l0_5 x34_2).f1) : List Int)).bind fun y136 => (if (y136.length : Int) > 65535 then (some ((⟨#[]⟩ : ByteArray), 0, 0, 0, (⟨#[]⟩ : ByteArray), 800)) else (opt_Put.l0 kj27 y136 l0_5 (l0_5.length : Int) (wrap64 (x34_2 + 1)) a0_0 a0_1 a0_2 a0_3 a0_4 l0_5))) else (none))) else (none)) else (none))) = some (r1, r2, r3, r4, r5, r6) := H
                        have A45 := Aside0.mk A450
                        clear A450
                        replace H := Option.bind_eq_some_iff.mp H
                        obtain ⟨t132, A460, H⟩ := H
                        replace H : (if t131.size + t132.size ≤ 9223372036854775807 then (if x4_2.length + (t131 ++ t132).size < 140737488355328 then ((some (x4_2 ++ bytesOf (t131 ++ t132) : List Int)).bind fun y133 => (if y133.length + ((rd_T52 l0_5 x34_2).f1).size < 140737488355328 then ((some (y133 ++ bytesOf ((rd_T52 l0_5 x34_2).f1) : List Int)).bind fun y136 => (if (y136.length : Int) > 65535 then (some ((⟨#[]⟩ : ByteArray), 0, 0, 0, (⟨#[]⟩ : ByteArray), 800)) else (opt_Put.l0 kj27 y136 l0_5 (l0_5.length : Int) (wrap64 (x34_2 + 1)) a0_0 a0_1 a0_2 a0_3 a0_4 l0_5))) else (none))) else (none)) else (none)) = some (r1, r2, r3, r4, r5, r6) := H
                        have A46 := Aside0.mk A460
                        clear A460
                        by_cases c47 : t131.size + t132.size ≤ 9223372036854775807
                        · rw [if_pos c47] at H
                          have c47b0 := eq_true c47
                          have c47b1 : decide (t131.size + t132.size ≤ 9223372036854775807) = true := decide_eq_true c47
                          try have c47b2 : (9223372036854775807 < t131.size + t132.size) = False := eq_false (Nat.not_lt.2 c47)
                          by_cases c48 : x4_2.length + (t131 ++ t132).size < 140737488355328
                          · rw [if_pos c48] at H
                            have LMc48 := Aside0.mk c48
                            clear c48
                            obtain ⟨y133, hy133⟩ : ∃ y_ : List Int, y_ = (x4_2 ++ bytesOf (t131 ++ t132)) := ⟨_, rfl⟩
                            replace H : (if y133.length + ((rd_T52 l0_5 x34_2).f1).size < 140737488355328 then ((some (y133 ++ bytesOf ((rd_T52 l0_5 x34_2).f1) : List Int)).bind fun y136 => (if (y136.length : Int) > 65535 then (some ((⟨#[]⟩ : ByteArray), 0, 0, 0, (⟨#[]⟩ : ByteArray), 800)) else (opt_Put.l0 kj27 y136 l0_5 (l0_5.length : Int) (wrap64 (x34_2 + 1)) a0_0 a0_1 a0_2 a0_3 a0_4 l0_5))) else (none)) = some (r1, r2, r3, r4, r5, r6) := by first | (rw [hy133]; with_reducible exact H) | (have H2_ := (Option.bind_some _ _).symm.trans H; rw [hy133]; with_reducible exact H2_) | (have H2_ := (Option.bind_some _ _).symm.trans H; with_reducible exact H2_) | with_reducible exact H | (rw [hy133]; exact H) | exact H
                            have Ny133 := Aside0.mk hy133
                            clear hy133
                            by_cases c49 : y133.length + ((rd_T52 l0_5 x34_2).f1).size < 140737488355328
                            · rw [if_pos c49] at H
                              have LMc49 := Aside0.mk c49
                              clear c49
                              obtain ⟨y136, hy136⟩ : ∃ y_ : List Int, y_ = (y133 ++ bytesOf ((rd_T52 l0_5 x34_2).f1)) := ⟨_, rfl⟩
                              replace H : (if (y136.length : Int) > 65535 then (some ((⟨#[]⟩ : ByteArray), 0, 0, 0, (⟨#[]⟩ : ByteArray), 800)) else (opt_Put.l0 kj27 y136 l0_5 (l0_5.length : Int) (wrap64 (x34_2 + 1)) a0_0 a0_1 a0_2 a0_3 a0_4 l0_5)) = some (r1, r2, r3, r4, r5, r6) := by first | (rw [hy136]; with_reducible exact H) | (have H2_ := (Option.bind_some _ _).symm.trans H; rw [hy136]; with_reducible exact H2_) | (have H2_ := (Option.bind_some _ _).symm.trans H; with_reducible exact H2_) | with_reducible exact H | (rw [hy136]; exact H) | exact H
                              have Ny136 := Aside0.mk hy136
                              clear hy136
                              by_cases c50 : (y136.length : Int) > 65535
                              · rw [if_pos c50] at H
                                have c50b0 : decide (65535 < (y136.length : Int)) = true := decide_eq_true c50
                                have c50b1 : decide (65535 < y136.length) = true := decide_eq_true (by omega)
                                clear c50
                                simp only [Option.some.injEq, Prod.mk.injEq] at H
                                obtain ⟨rfl, rfl, rfl, rfl, rfl, rfl⟩ := H
                                try go_wp2
                                have n0_ := Aside0.mk (Kd.R_drew HO_4.out)
                                have n1_ := Aside0.mk (blk_drew BK122.out)
                                have n2_ := Aside0.mk (blk_drew BK123.out)
                                have n3_ := Aside0.mk (blk_drew BK129.out)
                                have n4_ := Aside0.mk (below_drew1 HB.out)
                                clear HO_4
                                clear BK122
                                clear BK123
                                clear BK129
                                clear HB
                                have HO_4 := n0_
                                have BK122 := n1_
                                have BK123 := n2_
                                have BK129 := n3_
                                have HB := n4_
                                clear n0_ n1_ n2_ n3_ n4_
                                refine start_ (n := 14) (S := fun w' => w'.cell? ⟨gb129, 0, none⟩ = some (.int .i64 ((rd_T52 l0_5 x34_2).f0)) ∧ w'.cell? ⟨gb129, 1, none⟩ = some (.string ((rd_T52 l0_5 x34_2).f1))) (ds := []) #[false, false, false, false, false, false, false, false, false, false, false, false, false, false] (by kernel_rfl) rfl rfl ⟨(blk_cell BK129.out 0).trans rfl, (blk_cell BK129.out 1).trans rfl⟩ (fun hHeld => ?_); refine with_tabW opt_Put.tab9 opt_Put.bits9 (fun HT_ HW_ => ?_)
                                generalize wc.drew = w51 at HO_4 BK122 BK123 BK129 HB hHeld ⊢
                                refine pure_ (i := 0) (N := some 49) (v := ?_) (a' := ?_) #[true, false, false, false, false, false, false, false, false, false, false, false, false, false] rfl rfl (any_of HT_.out (by kernel_rfl)) (fun _ _ _ h => h) (Or.inl ⟨by rfl, ?_⟩) ?_ ?_
                                rotate_left
                                · intro w'
                                  go_simp
                                  with_reducible rfl
                                rotate_left
                                · simp only [Act.put, List.setIfInBounds_toArray, List.set_cons_zero, List.set_cons_succ, i64_w, i32_w]
                                  rfl
                                refine pure_ (i := 1) (N := some 50) (v := ?_) (a' := ?_) #[true, true, false, false, false, false, false, false, false, false, false, false, false, false] rfl rfl (any_of HT_.out (by kernel_rfl)) (fun _ _ _ h => h) (Or.inl ⟨by rfl, ?_⟩) ?_ ?_
                                rotate_left
                                · intro w'
                                  go_simp
                                  with_reducible rfl
                                rotate_left
                                · simp only [Act.put, List.setIfInBounds_toArray, List.set_cons_zero, List.set_cons_succ, i64_w, i32_w]
                                  rfl
                                refine pure_ (i := 4) (N := some 53) (v := ?_) (a' := ?_) #[true, true, false, false, true, false, false, false, false, false, false, false, false, false] rfl rfl (any_of HT_.out (by kernel_rfl)) (fun _ _ _ h => h) (Or.inl ⟨by rfl, ?_⟩) ?_ ?_
                                rotate_left
                                · intro w'
                                  go_simp
                                  with_reducible rfl
                                rotate_left
                                · simp only [Act.put, List.setIfInBounds_toArray, List.set_cons_zero, List.set_cons_succ, i64_w, i32_w]
                                  rfl
                                refine pure_ (i := 10) (N := some 59) (v := ?_) (a' := ?_) #[true, true, false, false, true, false, false, false, false, false, true, false, false, false] rfl rfl (any_of HT_.out (by kernel_rfl)) (fun _ _ _ h => h) (Or.inl ⟨by rfl, ?_⟩) ?_ ?_
                                rotate_left
                                · intro w'
                                  go_simp
                                  with_reducible rfl
                                rotate_left
                                · simp only [Act.put, List.setIfInBounds_toArray, List.set_cons_zero, List.set_cons_succ, i64_w, i32_w]
                                  rfl
                                refine take_ (i := 2) (N := some 51) (v := ?_) (a' := ?_) #[true, true, true, false, true, false, false, false, false, false, true, false, false, false] rfl rfl (take_ofW HT_.out HW_.out (by kernel_rfl)) (fun _ _ _ h => h) (Or.inl ⟨by rfl, ?_⟩) hHeld ?_ ?_
                                rotate_left
                                · rintro w' ⟨s0, s1⟩
                                  go_simp
                                  with_reducible rfl
                                rotate_left
                                · simp only [Act.put, List.setIfInBounds_toArray, List.set_cons_zero, List.set_cons_succ, i64_w, i32_w]
                                  rfl
                                refine take_ (i := 5) (N := some 54) (v := ?_) (a' := ?_) #[true, true, true, false, true, true, false, false, false, false, true, false, false, false] rfl rfl (take_ofW HT_.out HW_.out (by kernel_rfl)) (fun _ _ _ h => h) (Or.inl ⟨by rfl, ?_⟩) hHeld ?_ ?_
                                rotate_left
                                · rintro w' ⟨s0, s1⟩
                                  go_simp
                                  with_reducible rfl
                                rotate_left
                                · simp only [Act.put, List.setIfInBounds_toArray, List.set_cons_zero, List.set_cons_succ, i64_w, i32_w]
                                  rfl
                                refine pure_ (i := 6) (N := some 55) (v := ?_) (a' := ?_) #[true, true, true, false, true, true, true, false, false, false, true, false, false, false] rfl rfl (any_of HT_.out (by kernel_rfl)) (fun _ _ _ h => h) (Or.inl ⟨by rfl, ?_⟩) ?_ ?_
                                rotate_left
                                · intro w'
                                  go_simp
                                  with_reducible rfl
                                rotate_left
                                · simp only [Act.put, List.setIfInBounds_toArray, List.set_cons_zero, List.set_cons_succ, i64_w, i32_w]
                                  rfl
                                refine take_ (i := 11) (N := some 60) (v := ?_) (a' := ?_) #[true, true, true, false, true, true, true, false, false, false, true, true, false, false] rfl rfl (take_ofW HT_.out HW_.out (by kernel_rfl)) (fun _ _ _ h => h) (Or.inl ⟨by rfl, ?_⟩) hHeld ?_ ?_
                                rotate_left
                                · rintro w' ⟨s0, s1⟩
                                  go_simp
                                  with_reducible rfl
                                rotate_left
                                · simp only [Act.put, List.setIfInBounds_toArray, List.set_cons_zero, List.set_cons_succ, i64_w, i32_w]
                                  rfl
                                refine one_ (i := 3) (N := some 52) #[true, true, true, true, true, true, true, false, false, false, true, true, false, false] rfl rfl (one_of HT_.out (by kernel_rfl)) (by decide) (fun K hK => ?_)
                                refine goes_ Try.func47 (by kernel_rfl) rfl #[.int .i64 ((rd_T52 l0_5 x34_2).f0)] (by rfl) rfl rfl (by (try simp only [List.map_toArray, List.map_cons, List.map_nil]); first | done | rfl | (simp only [List.length_drop, List.length_take]; rfl)) ?_
                                with_reducible refine (octet_Put16.calls ((rd_T52 l0_5 x34_2).f0) t131 _ A45.out).mono ?_
                                rintro e w52 ⟨rfl, hb⟩
                                refine ⟨_, rfl, ?_⟩
                                have n0_ := Aside0.mk (Kd.R_below (by (with_reducible repeat (first | apply Kd.R_alloc | apply Kd.R_drewN | apply Kd.R_drew)); exact HO_4.out) hb)
                                have n1_ := Aside0.mk (blk_below (g := gb122) (o := .cells #[.int .i64 a0_0, .int .i64 a0_1, .int .i64 a0_2, .bool a0_3, .int .i64 a0_4, .slice (some ad128) l0_5.length c0_5] 24 (0, 0)) (by (with_reducible repeat (first | refine blk_drewN ?_ _ | refine blk_drew ?_ | refine blk_alloc ?_ _)); exact BK122.out) hb)
                                have n2_ := Aside0.mk (blk_below (g := gb123) (o := .cells #[.string x124000_2, .int .i64 x124001_2, .int .i64 x124002_2, .int .i64 x124003_2, .string x124004_2] 26 (0, 0)) (by (with_reducible repeat (first | refine blk_drewN ?_ _ | refine blk_drew ?_ | refine blk_alloc ?_ _)); exact BK123.out) hb)
                                have n3_ := Aside0.mk (blk_below (g := gb129) (o := .cells #[.int .i64 ((rd_T52 l0_5 x34_2).f0), .string ((rd_T52 l0_5 x34_2).f1)] 52 (0, 0)) (by (with_reducible repeat (first | refine blk_drewN ?_ _ | refine blk_drew ?_ | refine blk_alloc ?_ _)); exact BK129.out) hb)
                                have n4_ := Aside0.mk (below_step (by repeat (first | (with_reducible first | exact HB.out | apply below_alloc | apply pw_below_drewN | apply below_drew1 | refine below_set ?_ GE122.out | refine below_set ?_ GE123.out | refine below_set ?_ GE129.out) | exact HB.out)) hb)
                                clear HO_4
                                clear BK122
                                clear BK123
                                clear BK129
                                clear HB
                                have HO_4 := n0_
                                have BK122 := n1_
                                have BK123 := n2_
                                have BK129 := n3_
                                have HB := n4_
                                clear n0_ n1_ n2_ n3_ n4_
                                (try clear hb)
                                (try clear hb2)
                                (try clear hk)
                                (try clear hi)
                                refine hK.out _ _ ⟨(blk_cell BK129.out 0).trans rfl, (blk_cell BK129.out 1).trans rfl⟩ (fun hHeld => ?_)
                                clear hK K
                                refine norm_ (a' := ?_) ?_ ?_
                                rotate_left
                                · show Act.put _ (some 52) _ = _
                                  simp only [Act.put, List.setIfInBounds_toArray, List.set_cons_zero, List.set_cons_succ, i64_w, i32_w]
                                  rfl
                                refine one_ (i := 7) (N := some 56) #[true, true, true, true, true, true, true, true, false, false, true, true, false, false] rfl rfl (one_of HT_.out (by kernel_rfl)) (by decide) (fun K hK => ?_)
                                refine goes_ Try.func47 (by kernel_rfl) rfl #[.int .i64 (((rd_T52 l0_5 x34_2).f1).size : Int)] (by rfl) rfl rfl (by (try simp only [List.map_toArray, List.map_cons, List.map_nil]); first | done | rfl | (simp only [List.length_drop, List.length_take]; rfl)) ?_
                                with_reducible refine (octet_Put16.calls (((rd_T52 l0_5 x34_2).f1).size : Int) t132 _ A46.out).mono ?_
                                rintro e w53 ⟨rfl, hb⟩
                                refine ⟨_, rfl, ?_⟩
                                have n0_ := Aside0.mk (Kd.R_below (by (with_reducible repeat (first | apply Kd.R_alloc | apply Kd.R_drewN | apply Kd.R_drew)); exact HO_4.out) hb)
                                have n1_ := Aside0.mk (blk_below (g := gb122) (o := .cells #[.int .i64 a0_0, .int .i64 a0_1, .int .i64 a0_2, .bool a0_3, .int .i64 a0_4, .slice (some ad128) l0_5.length c0_5] 24 (0, 0)) (by (with_reducible repeat (first | refine blk_drewN ?_ _ | refine blk_drew ?_ | refine blk_alloc ?_ _)); exact BK122.out) hb)
                                have n2_ := Aside0.mk (blk_below (g := gb123) (o := .cells #[.string x124000_2, .int .i64 x124001_2, .int .i64 x124002_2, .int .i64 x124003_2, .string x124004_2] 26 (0, 0)) (by (with_reducible repeat (first | refine blk_drewN ?_ _ | refine blk_drew ?_ | refine blk_alloc ?_ _)); exact BK123.out) hb)
                                have n3_ := Aside0.mk (blk_below (g := gb129) (o := .cells #[.int .i64 ((rd_T52 l0_5 x34_2).f0), .string ((rd_T52 l0_5 x34_2).f1)] 52 (0, 0)) (by (with_reducible repeat (first | refine blk_drewN ?_ _ | refine blk_drew ?_ | refine blk_alloc ?_ _)); exact BK129.out) hb)
                                have n4_ := Aside0.mk (below_step (by repeat (first | (with_reducible first | exact HB.out | apply below_alloc | apply pw_below_drewN | apply below_drew1 | refine below_set ?_ GE122.out | refine below_set ?_ GE123.out | refine below_set ?_ GE129.out) | exact HB.out)) hb)
                                clear HO_4
                                clear BK122
                                clear BK123
                                clear BK129
                                clear HB
                                have HO_4 := n0_
                                have BK122 := n1_
                                have BK123 := n2_
                                have BK129 := n3_
                                have HB := n4_
                                clear n0_ n1_ n2_ n3_ n4_
                                (try clear hb)
                                (try clear hb2)
                                (try clear hk)
                                (try clear hi)
                                refine hK.out _ _ ⟨(blk_cell BK129.out 0).trans rfl, (blk_cell BK129.out 1).trans rfl⟩ (fun hHeld => ?_)
                                clear hK K
                                refine norm_ (a' := ?_) ?_ ?_
                                rotate_left
                                · show Act.put _ (some 56) _ = _
                                  simp only [Act.put, List.setIfInBounds_toArray, List.set_cons_zero, List.set_cons_succ, i64_w, i32_w]
                                  rfl
                                refine pure_ (i := 8) (N := some 57) (v := ?_) (a' := ?_) #[true, true, true, true, true, true, true, true, true, false, true, true, false, false] rfl rfl (any_of HT_.out (by kernel_rfl)) (fun _ _ _ h => h) (Or.inl ⟨by rfl, ?_⟩) ?_ ?_
                                rotate_left
                                · intro w'
                                  go_simp
                                  with_reducible rfl
                                rotate_left
                                · simp only [Act.put, List.setIfInBounds_toArray, List.set_cons_zero, List.set_cons_succ, i64_w, i32_w]
                                  rfl
                                refine one_ (i := 9) (N := some 58) #[true, true, true, true, true, true, true, true, true, true, true, true, false, false] rfl rfl (one_of HT_.out (by kernel_rfl)) (by decide) (fun K hK => ?_)
                                refine Go.Proofs.Ytndcjleadggibaa.StepStr.step_append_str (w0 := w) w.heap.size (by rfl) (.tmp 49) _ 54 9 5 rfl Try.underlying54 Try.underlying9 info5 u4 x4_2 (t131 ++ t132) rfl rfl ?aO ?aB ?aS ?aL ?_
                                (case aB => exact (by repeat (first | (with_reducible first | exact HB.out | apply below_alloc | apply pw_below_drewN | apply below_drew1 | refine below_set ?_ GE122.out | refine below_set ?_ GE123.out | refine below_set ?_ GE129.out) | exact HB.out)))
                                (case aO => exact (Kd.own_of_R (by (with_reducible repeat (first | apply Kd.R_alloc | apply Kd.R_drewN | apply Kd.R_drew)); exact HO_4.out)))
                                (case aS => exact (below_size (by repeat (first | (with_reducible first | exact HB.out | apply below_alloc | apply pw_below_drewN | apply below_drew1 | refine below_set ?_ GE122.out | refine below_set ?_ GE123.out | refine below_set ?_ GE129.out) | exact HB.out))))
                                (case aL => have := LMc48.out; omega)
                                intro v134 w54 ho0 hb hg
                                have ho := Kd.R_of_own (h1 := fun _ => rfl) (ok := fun _ => True) ho0 (fun _ _ => trivial)
                                clear ho0
                                have hat := True.intro
                                rw [← Ny133.out] at ho
                                change Kd.R (Kd.int .u8) 5 w54 w.heap.size (fun _ => True) v134 y133 at ho
                                have n0_ := Aside0.mk (blk_grown (g := gb122) (o := .cells #[.int .i64 a0_0, .int .i64 a0_1, .int .i64 a0_2, .bool a0_3, .int .i64 a0_4, .slice (some ad128) l0_5.length c0_5] 24 (0, 0)) (by (with_reducible repeat (first | refine blk_drewN ?_ _ | refine blk_drew ?_ | refine blk_alloc ?_ _)); exact BK122.out) hg (Kd.R_ne HO_4.out BK122.out (by decide)))
                                have n1_ := Aside0.mk (blk_grown (g := gb123) (o := .cells #[.string x124000_2, .int .i64 x124001_2, .int .i64 x124002_2, .int .i64 x124003_2, .string x124004_2] 26 (0, 0)) (by (with_reducible repeat (first | refine blk_drewN ?_ _ | refine blk_drew ?_ | refine blk_alloc ?_ _)); exact BK123.out) hg (Kd.R_ne HO_4.out BK123.out (by decide)))
                                have n2_ := Aside0.mk (blk_grown (g := gb129) (o := .cells #[.int .i64 ((rd_T52 l0_5 x34_2).f0), .string ((rd_T52 l0_5 x34_2).f1)] 52 (0, 0)) (by (with_reducible repeat (first | refine blk_drewN ?_ _ | refine blk_drew ?_ | refine blk_alloc ?_ _)); exact BK129.out) hg (Kd.R_ne HO_4.out BK129.out (by decide)))
                                have n3_ := Aside0.mk (hb)
                                have n4_ := Aside0.mk (ho)
                                clear BK122
                                clear BK123
                                clear BK129
                                clear HB
                                clear HO_4
                                have BK122 := n0_
                                have BK123 := n1_
                                have BK129 := n2_
                                have HB := n3_
                                have HO135 := n4_
                                clear n0_ n1_ n2_ n3_ n4_
                                clear ho hb hg hat
                                refine hK.out _ _ ⟨(blk_cell BK129.out 0).trans rfl, (blk_cell BK129.out 1).trans rfl⟩ (fun hHeld => ?_)
                                clear hK K
                                refine norm_ (a' := ?_) ?_ ?_
                                rotate_left
                                · show Act.put _ (some 58) _ = _
                                  simp only [Act.put, List.setIfInBounds_toArray, List.set_cons_zero, List.set_cons_succ, i64_w, i32_w]
                                  rfl
                                refine one_ (i := 12) (N := some 61) #[true, true, true, true, true, true, true, true, true, true, true, true, true, false] rfl rfl (one_of HT_.out (by kernel_rfl)) (by decide) (fun K hK => ?_)
                                refine Go.Proofs.Ytndcjleadggibaa.StepStr.step_append_str (w0 := w) w.heap.size (by rfl) (.tmp 58) _ 54 9 5 rfl Try.underlying54 Try.underlying9 info5 v134 y133 ((rd_T52 l0_5 x34_2).f1) rfl rfl ?aO ?aB ?aS ?aL ?_
                                (case aB => exact (by repeat (first | (with_reducible first | exact HB.out | apply below_alloc | apply pw_below_drewN | apply below_drew1 | refine below_set ?_ GE122.out | refine below_set ?_ GE123.out | refine below_set ?_ GE129.out) | exact HB.out)))
                                (case aO => exact (Kd.own_of_R (by (with_reducible repeat (first | apply Kd.R_alloc | apply Kd.R_drewN | apply Kd.R_drew)); exact HO135.out)))
                                (case aS => exact (below_size (by repeat (first | (with_reducible first | exact HB.out | apply below_alloc | apply pw_below_drewN | apply below_drew1 | refine below_set ?_ GE122.out | refine below_set ?_ GE123.out | refine below_set ?_ GE129.out) | exact HB.out))))
                                (case aL => have := LMc49.out; omega)
                                intro v137 w55 ho0 hb hg
                                have ho := Kd.R_of_own (h1 := fun _ => rfl) (ok := fun _ => True) ho0 (fun _ _ => trivial)
                                clear ho0
                                have hat := True.intro
                                rw [← Ny136.out] at ho
                                change Kd.R (Kd.int .u8) 5 w55 w.heap.size (fun _ => True) v137 y136 at ho
                                have n0_ := Aside0.mk (blk_grown (g := gb122) (o := .cells #[.int .i64 a0_0, .int .i64 a0_1, .int .i64 a0_2, .bool a0_3, .int .i64 a0_4, .slice (some ad128) l0_5.length c0_5] 24 (0, 0)) (by (with_reducible repeat (first | refine blk_drewN ?_ _ | refine blk_drew ?_ | refine blk_alloc ?_ _)); exact BK122.out) hg (Kd.R_ne HO135.out BK122.out (by decide)))
                                have n1_ := Aside0.mk (blk_grown (g := gb123) (o := .cells #[.string x124000_2, .int .i64 x124001_2, .int .i64 x124002_2, .int .i64 x124003_2, .string x124004_2] 26 (0, 0)) (by (with_reducible repeat (first | refine blk_drewN ?_ _ | refine blk_drew ?_ | refine blk_alloc ?_ _)); exact BK123.out) hg (Kd.R_ne HO135.out BK123.out (by decide)))
                                have n2_ := Aside0.mk (blk_grown (g := gb129) (o := .cells #[.int .i64 ((rd_T52 l0_5 x34_2).f0), .string ((rd_T52 l0_5 x34_2).f1)] 52 (0, 0)) (by (with_reducible repeat (first | refine blk_drewN ?_ _ | refine blk_drew ?_ | refine blk_alloc ?_ _)); exact BK129.out) hg (Kd.R_ne HO135.out BK129.out (by decide)))
                                have n3_ := Aside0.mk (hb)
                                have n4_ := Aside0.mk (ho)
                                clear BK122
                                clear BK123
                                clear BK129
                                clear HB
                                clear HO135
                                have BK122 := n0_
                                have BK123 := n1_
                                have BK129 := n2_
                                have HB := n3_
                                have HO138 := n4_
                                clear n0_ n1_ n2_ n3_ n4_
                                clear ho hb hg hat
                                refine hK.out _ _ ⟨(blk_cell BK129.out 0).trans rfl, (blk_cell BK129.out 1).trans rfl⟩ (fun hHeld => ?_)
                                clear hK K
                                refine norm_ (a' := ?_) ?_ ?_
                                rotate_left
                                · show Act.put _ (some 61) _ = _
                                  simp only [Act.put, List.setIfInBounds_toArray, List.set_cons_zero, List.set_cons_succ, i64_w, i32_w]
                                  rfl
                                refine pure_ (i := 13) (N := some 4) (v := ?_) (a' := ?_) #[true, true, true, true, true, true, true, true, true, true, true, true, true, true] rfl rfl (any_of HT_.out (by kernel_rfl)) (fun _ _ _ h => h) (Or.inl ⟨by rfl, ?_⟩) ?_ ?_
                                rotate_left
                                · intro w'
                                  go_simp
                                  with_reducible rfl
                                rotate_left
                                · simp only [Act.put, List.setIfInBounds_toArray, List.set_cons_zero, List.set_cons_succ, i64_w, i32_w]
                                  rfl
                                refine done_ (done_of HT_.out (by kernel_rfl)) ?_
                                obtain ⟨Ao56, co56, eo56⟩ := Kd.R_slice HO138.out
                                subst eo56
                                have hnb57 := NB123_122.out
                                have hnc57 := NB122_123.out
                                have hnb58 := NB123_129.out
                                have hnc58 := NB129_123.out
                                (try clear hcz22_0 hcz22_1 hcz22_2 hcz22_3 hcz22_4 hfz22_0 hfz22_1 hfz22_2 hfz22_3 hfz22_4)
                                (try clear hcz24_0 hcz24_1 hcz24_2 hcz24_3 hcz24_4 hcz24_5 hfz24_0 hfz24_1 hfz24_2 hfz24_3 hfz24_4 hfz24_5)
                                (try clear hcz32_0 hcz32_1 hfz32_0 hfz32_1)
                                (try clear hcz37_0 hcz37_1 hfz37_0 hfz37_1)
                                (try clear hcz40_0 hcz40_1 hfz40_0 hfz40_1)
                                (try clear hcz44_0 hcz44_1 hcz44_2 hcz44_3 hcz44_4 hfz44_0 hfz44_1 hfz44_2 hfz44_3 hfz44_4)
                                have hcz59_0 : w55.cell? ⟨gb123, 0, none⟩ = some (.string x124000_2) := (blk_cell BK123.out 0).trans rfl
                                have hcz59_1 : w55.cell? ⟨gb123, 1, none⟩ = some (.int .i64 x124001_2) := (blk_cell BK123.out 1).trans rfl
                                have hcz59_2 : w55.cell? ⟨gb123, 2, none⟩ = some (.int .i64 x124002_2) := (blk_cell BK123.out 2).trans rfl
                                have hcz59_3 : w55.cell? ⟨gb123, 3, none⟩ = some (.int .i64 x124003_2) := (blk_cell BK123.out 3).trans rfl
                                have hcz59_4 : w55.cell? ⟨gb123, 4, none⟩ = some (.string x124004_2) := (blk_cell BK123.out 4).trans rfl
                                have hfz59_0 := blk_frozen BK123.out 0
                                have hfz59_1 := blk_frozen BK123.out 1
                                have hfz59_2 := blk_frozen BK123.out 2
                                have hfz59_3 := blk_frozen BK123.out 3
                                have hfz59_4 := blk_frozen BK123.out 4
                                try go_wp2
                                refine bodyPost_ret (results_ct rfl _ _ gb123 26 #[.string (⟨#[]⟩ : ByteArray), .int .i64 0, .int .i64 0, .int .i64 0, .string (⟨#[]⟩ : ByteArray)] (0, 0) _ rfl (by (with_reducible repeat (first | refine blk_drewN ?_ _ | refine blk_drew ?_ | refine blk_alloc ?_ _)); refine blk_put (cs := #[.string (⟨#[]⟩ : ByteArray), .int .i64 0, .int .i64 0, .int .i64 0, .string x124004_2]) ?_ 4 _ rfl; (with_reducible repeat (first | refine blk_drewN ?_ _ | refine blk_drew ?_ | refine blk_alloc ?_ _)); refine blk_put (cs := #[.string (⟨#[]⟩ : ByteArray), .int .i64 0, .int .i64 0, .int .i64 x124003_2, .string x124004_2]) ?_ 3 _ rfl; (with_reducible repeat (first | refine blk_drewN ?_ _ | refine blk_drew ?_ | refine blk_alloc ?_ _)); refine blk_put (cs := #[.string (⟨#[]⟩ : ByteArray), .int .i64 0, .int .i64 x124002_2, .int .i64 x124003_2, .string x124004_2]) ?_ 2 _ rfl; (with_reducible repeat (first | refine blk_drewN ?_ _ | refine blk_drew ?_ | refine blk_alloc ?_ _)); refine blk_put (cs := #[.string (⟨#[]⟩ : ByteArray), .int .i64 x124001_2, .int .i64 x124002_2, .int .i64 x124003_2, .string x124004_2]) ?_ 1 _ rfl; (with_reducible repeat (first | refine blk_drewN ?_ _ | refine blk_drew ?_ | refine blk_alloc ?_ _)); refine blk_put (cs := #[.string x124000_2, .int .i64 x124001_2, .int .i64 x124002_2, .int .i64 x124003_2, .string x124004_2]) ?_ 0 _ rfl; (with_reducible repeat (first | refine blk_drewN ?_ _ | refine blk_drew ?_ | refine blk_alloc ?_ _)); exact BK123.out) Try.underlying26 rfl (by kernel_rfl)) rfl ?_
                                exact ⟨by first | rfl | (simp [errW_none, errW_some] <;> rfl) | (simp [*, errW_none, errW_some] <;> rfl), by repeat (first | (with_reducible first | exact HB.out | apply below_alloc | apply pw_below_drewN | apply below_drew1 | refine below_set ?_ GE122.out | refine below_set ?_ GE123.out | refine below_set ?_ GE129.out) | exact HB.out)⟩
                              · rw [if_neg c50] at H
                                have c50b0 : decide (65535 < (y136.length : Int)) = false := decide_eq_false c50
                                have c50b1 : decide (65535 < y136.length) = false := decide_eq_false (by omega)
                                clear c50
                                have H' := Aside0.mk H
                                clear H
                                try go_wp2
                                have n0_ := Aside0.mk (Kd.R_drew HO_4.out)
                                have n1_ := Aside0.mk (blk_drew BK122.out)
                                have n2_ := Aside0.mk (blk_drew BK123.out)
                                have n3_ := Aside0.mk (blk_drew BK129.out)
                                have n4_ := Aside0.mk (below_drew1 HB.out)
                                clear HO_4
                                clear BK122
                                clear BK123
                                clear BK129
                                clear HB
                                have HO_4 := n0_
                                have BK122 := n1_
                                have BK123 := n2_
                                have BK129 := n3_
                                have HB := n4_
                                clear n0_ n1_ n2_ n3_ n4_
                                refine start_ (n := 14) (S := fun w' => w'.cell? ⟨gb129, 0, none⟩ = some (.int .i64 ((rd_T52 l0_5 x34_2).f0)) ∧ w'.cell? ⟨gb129, 1, none⟩ = some (.string ((rd_T52 l0_5 x34_2).f1))) (ds := []) #[false, false, false, false, false, false, false, false, false, false, false, false, false, false] (by kernel_rfl) rfl rfl ⟨(blk_cell BK129.out 0).trans rfl, (blk_cell BK129.out 1).trans rfl⟩ (fun hHeld => ?_); refine with_tabW opt_Put.tab9 opt_Put.bits9 (fun HT_ HW_ => ?_)
                                generalize wc.drew = w60 at HO_4 BK122 BK123 BK129 HB hHeld ⊢
                                refine pure_ (i := 0) (N := some 49) (v := ?_) (a' := ?_) #[true, false, false, false, false, false, false, false, false, false, false, false, false, false] rfl rfl (any_of HT_.out (by kernel_rfl)) (fun _ _ _ h => h) (Or.inl ⟨by rfl, ?_⟩) ?_ ?_
                                rotate_left
                                · intro w'
                                  go_simp
                                  with_reducible rfl
                                rotate_left
                                · simp only [Act.put, List.setIfInBounds_toArray, List.set_cons_zero, List.set_cons_succ, i64_w, i32_w]
                                  rfl
                                refine pure_ (i := 1) (N := some 50) (v := ?_) (a' := ?_) #[true, true, false, false, false, false, false, false, false, false, false, false, false, false] rfl rfl (any_of HT_.out (by kernel_rfl)) (fun _ _ _ h => h) (Or.inl ⟨by rfl, ?_⟩) ?_ ?_
                                rotate_left
                                · intro w'
                                  go_simp
                                  with_reducible rfl
                                rotate_left
                                · simp only [Act.put, List.setIfInBounds_toArray, List.set_cons_zero, List.set_cons_succ, i64_w, i32_w]
                                  rfl
                                refine pure_ (i := 4) (N := some 53) (v := ?_) (a' := ?_) #[true, true, false, false, true, false, false, false, false, false, false, false, false, false] rfl rfl (any_of HT_.out (by kernel_rfl)) (fun _ _ _ h => h) (Or.inl ⟨by rfl, ?_⟩) ?_ ?_
                                rotate_left
                                · intro w'
                                  go_simp
                                  with_reducible rfl
                                rotate_left
                                · simp only [Act.put, List.setIfInBounds_toArray, List.set_cons_zero, List.set_cons_succ, i64_w, i32_w]
                                  rfl
                                refine pure_ (i := 10) (N := some 59) (v := ?_) (a' := ?_) #[true, true, false, false, true, false, false, false, false, false, true, false, false, false] rfl rfl (any_of HT_.out (by kernel_rfl)) (fun _ _ _ h => h) (Or.inl ⟨by rfl, ?_⟩) ?_ ?_
                                rotate_left
                                · intro w'
                                  go_simp
                                  with_reducible rfl
                                rotate_left
                                · simp only [Act.put, List.setIfInBounds_toArray, List.set_cons_zero, List.set_cons_succ, i64_w, i32_w]
                                  rfl
                                refine take_ (i := 2) (N := some 51) (v := ?_) (a' := ?_) #[true, true, true, false, true, false, false, false, false, false, true, false, false, false] rfl rfl (take_ofW HT_.out HW_.out (by kernel_rfl)) (fun _ _ _ h => h) (Or.inl ⟨by rfl, ?_⟩) hHeld ?_ ?_
                                rotate_left
                                · rintro w' ⟨s0, s1⟩
                                  go_simp
                                  with_reducible rfl
                                rotate_left
                                · simp only [Act.put, List.setIfInBounds_toArray, List.set_cons_zero, List.set_cons_succ, i64_w, i32_w]
                                  rfl
                                refine take_ (i := 5) (N := some 54) (v := ?_) (a' := ?_) #[true, true, true, false, true, true, false, false, false, false, true, false, false, false] rfl rfl (take_ofW HT_.out HW_.out (by kernel_rfl)) (fun _ _ _ h => h) (Or.inl ⟨by rfl, ?_⟩) hHeld ?_ ?_
                                rotate_left
                                · rintro w' ⟨s0, s1⟩
                                  go_simp
                                  with_reducible rfl
                                rotate_left
                                · simp only [Act.put, List.setIfInBounds_toArray, List.set_cons_zero, List.set_cons_succ, i64_w, i32_w]
                                  rfl
                                refine pure_ (i := 6) (N := some 55) (v := ?_) (a' := ?_) #[true, true, true, false, true, true, true, false, false, false, true, false, false, false] rfl rfl (any_of HT_.out (by kernel_rfl)) (fun _ _ _ h => h) (Or.inl ⟨by rfl, ?_⟩) ?_ ?_
                                rotate_left
                                · intro w'
                                  go_simp
                                  with_reducible rfl
                                rotate_left
                                · simp only [Act.put, List.setIfInBounds_toArray, List.set_cons_zero, List.set_cons_succ, i64_w, i32_w]
                                  rfl
                                refine take_ (i := 11) (N := some 60) (v := ?_) (a' := ?_) #[true, true, true, false, true, true, true, false, false, false, true, true, false, false] rfl rfl (take_ofW HT_.out HW_.out (by kernel_rfl)) (fun _ _ _ h => h) (Or.inl ⟨by rfl, ?_⟩) hHeld ?_ ?_
                                rotate_left
                                · rintro w' ⟨s0, s1⟩
                                  go_simp
                                  with_reducible rfl
                                rotate_left
                                · simp only [Act.put, List.setIfInBounds_toArray, List.set_cons_zero, List.set_cons_succ, i64_w, i32_w]
                                  rfl
                                refine one_ (i := 3) (N := some 52) #[true, true, true, true, true, true, true, false, false, false, true, true, false, false] rfl rfl (one_of HT_.out (by kernel_rfl)) (by decide) (fun K hK => ?_)
                                refine goes_ Try.func47 (by kernel_rfl) rfl #[.int .i64 ((rd_T52 l0_5 x34_2).f0)] (by rfl) rfl rfl (by (try simp only [List.map_toArray, List.map_cons, List.map_nil]); first | done | rfl | (simp only [List.length_drop, List.length_take]; rfl)) ?_
                                with_reducible refine (octet_Put16.calls ((rd_T52 l0_5 x34_2).f0) t131 _ A45.out).mono ?_
                                rintro e w61 ⟨rfl, hb⟩
                                refine ⟨_, rfl, ?_⟩
                                have n0_ := Aside0.mk (Kd.R_below (by (with_reducible repeat (first | apply Kd.R_alloc | apply Kd.R_drewN | apply Kd.R_drew)); exact HO_4.out) hb)
                                have n1_ := Aside0.mk (blk_below (g := gb122) (o := .cells #[.int .i64 a0_0, .int .i64 a0_1, .int .i64 a0_2, .bool a0_3, .int .i64 a0_4, .slice (some ad128) l0_5.length c0_5] 24 (0, 0)) (by (with_reducible repeat (first | refine blk_drewN ?_ _ | refine blk_drew ?_ | refine blk_alloc ?_ _)); exact BK122.out) hb)
                                have n2_ := Aside0.mk (blk_below (g := gb123) (o := .cells #[.string x124000_2, .int .i64 x124001_2, .int .i64 x124002_2, .int .i64 x124003_2, .string x124004_2] 26 (0, 0)) (by (with_reducible repeat (first | refine blk_drewN ?_ _ | refine blk_drew ?_ | refine blk_alloc ?_ _)); exact BK123.out) hb)
                                have n3_ := Aside0.mk (blk_below (g := gb129) (o := .cells #[.int .i64 ((rd_T52 l0_5 x34_2).f0), .string ((rd_T52 l0_5 x34_2).f1)] 52 (0, 0)) (by (with_reducible repeat (first | refine blk_drewN ?_ _ | refine blk_drew ?_ | refine blk_alloc ?_ _)); exact BK129.out) hb)
                                have n4_ := Aside0.mk (below_step (by repeat (first | (with_reducible first | exact HB.out | apply below_alloc | apply pw_below_drewN | apply below_drew1 | refine below_set ?_ GE122.out | refine below_set ?_ GE123.out | refine below_set ?_ GE129.out) | exact HB.out)) hb)
                                clear HO_4
                                clear BK122
                                clear BK123
                                clear BK129
                                clear HB
                                have HO_4 := n0_
                                have BK122 := n1_
                                have BK123 := n2_
                                have BK129 := n3_
                                have HB := n4_
                                clear n0_ n1_ n2_ n3_ n4_
                                (try clear hb)
                                (try clear hb2)
                                (try clear hk)
                                (try clear hi)
                                refine hK.out _ _ ⟨(blk_cell BK129.out 0).trans rfl, (blk_cell BK129.out 1).trans rfl⟩ (fun hHeld => ?_)
                                clear hK K
                                refine norm_ (a' := ?_) ?_ ?_
                                rotate_left
                                · show Act.put _ (some 52) _ = _
                                  simp only [Act.put, List.setIfInBounds_toArray, List.set_cons_zero, List.set_cons_succ, i64_w, i32_w]
                                  rfl
                                refine one_ (i := 7) (N := some 56) #[true, true, true, true, true, true, true, true, false, false, true, true, false, false] rfl rfl (one_of HT_.out (by kernel_rfl)) (by decide) (fun K hK => ?_)
                                refine goes_ Try.func47 (by kernel_rfl) rfl #[.int .i64 (((rd_T52 l0_5 x34_2).f1).size : Int)] (by rfl) rfl rfl (by (try simp only [List.map_toArray, List.map_cons, List.map_nil]); first | done | rfl | (simp only [List.length_drop, List.length_take]; rfl)) ?_
                                with_reducible refine (octet_Put16.calls (((rd_T52 l0_5 x34_2).f1).size : Int) t132 _ A46.out).mono ?_
                                rintro e w62 ⟨rfl, hb⟩
                                refine ⟨_, rfl, ?_⟩
                                have n0_ := Aside0.mk (Kd.R_below (by (with_reducible repeat (first | apply Kd.R_alloc | apply Kd.R_drewN | apply Kd.R_drew)); exact HO_4.out) hb)
                                have n1_ := Aside0.mk (blk_below (g := gb122) (o := .cells #[.int .i64 a0_0, .int .i64 a0_1, .int .i64 a0_2, .bool a0_3, .int .i64 a0_4, .slice (some ad128) l0_5.length c0_5] 24 (0, 0)) (by (with_reducible repeat (first | refine blk_drewN ?_ _ | refine blk_drew ?_ | refine blk_alloc ?_ _)); exact BK122.out) hb)
                                have n2_ := Aside0.mk (blk_below (g := gb123) (o := .cells #[.string x124000_2, .int .i64 x124001_2, .int .i64 x124002_2, .int .i64 x124003_2, .string x124004_2] 26 (0, 0)) (by (with_reducible repeat (first | refine blk_drewN ?_ _ | refine blk_drew ?_ | refine blk_alloc ?_ _)); exact BK123.out) hb)
                                have n3_ := Aside0.mk (blk_below (g := gb129) (o := .cells #[.int .i64 ((rd_T52 l0_5 x34_2).f0), .string ((rd_T52 l0_5 x34_2).f1)] 52 (0, 0)) (by (with_reducible repeat (first | refine blk_drewN ?_ _ | refine blk_drew ?_ | refine blk_alloc ?_ _)); exact BK129.out) hb)
                                have n4_ := Aside0.mk (below_step (by repeat (first | (with_reducible first | exact HB.out | apply below_alloc | apply pw_below_drewN | apply below_drew1 | refine below_set ?_ GE122.out | refine below_set ?_ GE123.out | refine below_set ?_ GE129.out) | exact HB.out)) hb)
                                clear HO_4
                                clear BK122
                                clear BK123
                                clear BK129
                                clear HB
                                have HO_4 := n0_
                                have BK122 := n1_
                                have BK123 := n2_
                                have BK129 := n3_
                                have HB := n4_
                                clear n0_ n1_ n2_ n3_ n4_
                                (try clear hb)
                                (try clear hb2)
                                (try clear hk)
                                (try clear hi)
                                refine hK.out _ _ ⟨(blk_cell BK129.out 0).trans rfl, (blk_cell BK129.out 1).trans rfl⟩ (fun hHeld => ?_)
                                clear hK K
                                refine norm_ (a' := ?_) ?_ ?_
                                rotate_left
                                · show Act.put _ (some 56) _ = _
                                  simp only [Act.put, List.setIfInBounds_toArray, List.set_cons_zero, List.set_cons_succ, i64_w, i32_w]
                                  rfl
                                refine pure_ (i := 8) (N := some 57) (v := ?_) (a' := ?_) #[true, true, true, true, true, true, true, true, true, false, true, true, false, false] rfl rfl (any_of HT_.out (by kernel_rfl)) (fun _ _ _ h => h) (Or.inl ⟨by rfl, ?_⟩) ?_ ?_
                                rotate_left
                                · intro w'
                                  go_simp
                                  with_reducible rfl
                                rotate_left
                                · simp only [Act.put, List.setIfInBounds_toArray, List.set_cons_zero, List.set_cons_succ, i64_w, i32_w]
                                  rfl
                                refine one_ (i := 9) (N := some 58) #[true, true, true, true, true, true, true, true, true, true, true, true, false, false] rfl rfl (one_of HT_.out (by kernel_rfl)) (by decide) (fun K hK => ?_)
                                refine Go.Proofs.Ytndcjleadggibaa.StepStr.step_append_str (w0 := w) w.heap.size (by rfl) (.tmp 49) _ 54 9 5 rfl Try.underlying54 Try.underlying9 info5 u4 x4_2 (t131 ++ t132) rfl rfl ?aO ?aB ?aS ?aL ?_
                                (case aB => exact (by repeat (first | (with_reducible first | exact HB.out | apply below_alloc | apply pw_below_drewN | apply below_drew1 | refine below_set ?_ GE122.out | refine below_set ?_ GE123.out | refine below_set ?_ GE129.out) | exact HB.out)))
                                (case aO => exact (Kd.own_of_R (by (with_reducible repeat (first | apply Kd.R_alloc | apply Kd.R_drewN | apply Kd.R_drew)); exact HO_4.out)))
                                (case aS => exact (below_size (by repeat (first | (with_reducible first | exact HB.out | apply below_alloc | apply pw_below_drewN | apply below_drew1 | refine below_set ?_ GE122.out | refine below_set ?_ GE123.out | refine below_set ?_ GE129.out) | exact HB.out))))
                                (case aL => have := LMc48.out; omega)
                                intro v134 w63 ho0 hb hg
                                have ho := Kd.R_of_own (h1 := fun _ => rfl) (ok := fun _ => True) ho0 (fun _ _ => trivial)
                                clear ho0
                                have hat := True.intro
                                rw [← Ny133.out] at ho
                                change Kd.R (Kd.int .u8) 5 w63 w.heap.size (fun _ => True) v134 y133 at ho
                                have n0_ := Aside0.mk (blk_grown (g := gb122) (o := .cells #[.int .i64 a0_0, .int .i64 a0_1, .int .i64 a0_2, .bool a0_3, .int .i64 a0_4, .slice (some ad128) l0_5.length c0_5] 24 (0, 0)) (by (with_reducible repeat (first | refine blk_drewN ?_ _ | refine blk_drew ?_ | refine blk_alloc ?_ _)); exact BK122.out) hg (Kd.R_ne HO_4.out BK122.out (by decide)))
                                have n1_ := Aside0.mk (blk_grown (g := gb123) (o := .cells #[.string x124000_2, .int .i64 x124001_2, .int .i64 x124002_2, .int .i64 x124003_2, .string x124004_2] 26 (0, 0)) (by (with_reducible repeat (first | refine blk_drewN ?_ _ | refine blk_drew ?_ | refine blk_alloc ?_ _)); exact BK123.out) hg (Kd.R_ne HO_4.out BK123.out (by decide)))
                                have n2_ := Aside0.mk (blk_grown (g := gb129) (o := .cells #[.int .i64 ((rd_T52 l0_5 x34_2).f0), .string ((rd_T52 l0_5 x34_2).f1)] 52 (0, 0)) (by (with_reducible repeat (first | refine blk_drewN ?_ _ | refine blk_drew ?_ | refine blk_alloc ?_ _)); exact BK129.out) hg (Kd.R_ne HO_4.out BK129.out (by decide)))
                                have n3_ := Aside0.mk (hb)
                                have n4_ := Aside0.mk (ho)
                                clear BK122
                                clear BK123
                                clear BK129
                                clear HB
                                clear HO_4
                                have BK122 := n0_
                                have BK123 := n1_
                                have BK129 := n2_
                                have HB := n3_
                                have HO135 := n4_
                                clear n0_ n1_ n2_ n3_ n4_
                                clear ho hb hg hat
                                refine hK.out _ _ ⟨(blk_cell BK129.out 0).trans rfl, (blk_cell BK129.out 1).trans rfl⟩ (fun hHeld => ?_)
                                clear hK K
                                refine norm_ (a' := ?_) ?_ ?_
                                rotate_left
                                · show Act.put _ (some 58) _ = _
                                  simp only [Act.put, List.setIfInBounds_toArray, List.set_cons_zero, List.set_cons_succ, i64_w, i32_w]
                                  rfl
                                refine one_ (i := 12) (N := some 61) #[true, true, true, true, true, true, true, true, true, true, true, true, true, false] rfl rfl (one_of HT_.out (by kernel_rfl)) (by decide) (fun K hK => ?_)
                                refine Go.Proofs.Ytndcjleadggibaa.StepStr.step_append_str (w0 := w) w.heap.size (by rfl) (.tmp 58) _ 54 9 5 rfl Try.underlying54 Try.underlying9 info5 v134 y133 ((rd_T52 l0_5 x34_2).f1) rfl rfl ?aO ?aB ?aS ?aL ?_
                                (case aB => exact (by repeat (first | (with_reducible first | exact HB.out | apply below_alloc | apply pw_below_drewN | apply below_drew1 | refine below_set ?_ GE122.out | refine below_set ?_ GE123.out | refine below_set ?_ GE129.out) | exact HB.out)))
                                (case aO => exact (Kd.own_of_R (by (with_reducible repeat (first | apply Kd.R_alloc | apply Kd.R_drewN | apply Kd.R_drew)); exact HO135.out)))
                                (case aS => exact (below_size (by repeat (first | (with_reducible first | exact HB.out | apply below_alloc | apply pw_below_drewN | apply below_drew1 | refine below_set ?_ GE122.out | refine below_set ?_ GE123.out | refine below_set ?_ GE129.out) | exact HB.out))))
                                (case aL => have := LMc49.out; omega)
                                intro v137 w64 ho0 hb hg
                                have ho := Kd.R_of_own (h1 := fun _ => rfl) (ok := fun _ => True) ho0 (fun _ _ => trivial)
                                clear ho0
                                have hat := True.intro
                                rw [← Ny136.out] at ho
                                change Kd.R (Kd.int .u8) 5 w64 w.heap.size (fun _ => True) v137 y136 at ho
                                have n0_ := Aside0.mk (blk_grown (g := gb122) (o := .cells #[.int .i64 a0_0, .int .i64 a0_1, .int .i64 a0_2, .bool a0_3, .int .i64 a0_4, .slice (some ad128) l0_5.length c0_5] 24 (0, 0)) (by (with_reducible repeat (first | refine blk_drewN ?_ _ | refine blk_drew ?_ | refine blk_alloc ?_ _)); exact BK122.out) hg (Kd.R_ne HO135.out BK122.out (by decide)))
                                have n1_ := Aside0.mk (blk_grown (g := gb123) (o := .cells #[.string x124000_2, .int .i64 x124001_2, .int .i64 x124002_2, .int .i64 x124003_2, .string x124004_2] 26 (0, 0)) (by (with_reducible repeat (first | refine blk_drewN ?_ _ | refine blk_drew ?_ | refine blk_alloc ?_ _)); exact BK123.out) hg (Kd.R_ne HO135.out BK123.out (by decide)))
                                have n2_ := Aside0.mk (blk_grown (g := gb129) (o := .cells #[.int .i64 ((rd_T52 l0_5 x34_2).f0), .string ((rd_T52 l0_5 x34_2).f1)] 52 (0, 0)) (by (with_reducible repeat (first | refine blk_drewN ?_ _ | refine blk_drew ?_ | refine blk_alloc ?_ _)); exact BK129.out) hg (Kd.R_ne HO135.out BK129.out (by decide)))
                                have n3_ := Aside0.mk (hb)
                                have n4_ := Aside0.mk (ho)
                                clear BK122
                                clear BK123
                                clear BK129
                                clear HB
                                clear HO135
                                have BK122 := n0_
                                have BK123 := n1_
                                have BK129 := n2_
                                have HB := n3_
                                have HO138 := n4_
                                clear n0_ n1_ n2_ n3_ n4_
                                clear ho hb hg hat
                                refine hK.out _ _ ⟨(blk_cell BK129.out 0).trans rfl, (blk_cell BK129.out 1).trans rfl⟩ (fun hHeld => ?_)
                                clear hK K
                                refine norm_ (a' := ?_) ?_ ?_
                                rotate_left
                                · show Act.put _ (some 61) _ = _
                                  simp only [Act.put, List.setIfInBounds_toArray, List.set_cons_zero, List.set_cons_succ, i64_w, i32_w]
                                  rfl
                                refine pure_ (i := 13) (N := some 4) (v := ?_) (a' := ?_) #[true, true, true, true, true, true, true, true, true, true, true, true, true, true] rfl rfl (any_of HT_.out (by kernel_rfl)) (fun _ _ _ h => h) (Or.inl ⟨by rfl, ?_⟩) ?_ ?_
                                rotate_left
                                · intro w'
                                  go_simp
                                  with_reducible rfl
                                rotate_left
                                · simp only [Act.put, List.setIfInBounds_toArray, List.set_cons_zero, List.set_cons_succ, i64_w, i32_w]
                                  rfl
                                refine done_ (done_of HT_.out (by kernel_rfl)) ?_
                                obtain ⟨Ao65, co65, eo65⟩ := Kd.R_slice HO138.out
                                subst eo65
                                try go_wp2
                                go_roundg kj27
                                case measure => have := HJ1.out; have := HK2.out; have := HJ27.out; omega
                                case rel => exact ⟨(y136), (wrap64 (x34_2 + 1)), (x124000_2), (x124001_2), (x124002_2), (x124003_2), (x124004_2), (by first | rfl | (simp; done) | (simp [*]; done)), H', ⟨by have := HJ1.out; have := HK2.out; have := HJ27.out; omega⟩, ⟨by (with_reducible repeat (first | apply Kd.R_alloc | apply Kd.R_drewN | apply Kd.R_drew)); exact HO138.out⟩, ⟨by (with_reducible repeat (first | refine blk_drewN ?_ _ | refine blk_drew ?_ | refine blk_alloc ?_ _)); exact BK122.out⟩, ⟨by (with_reducible repeat (first | refine blk_drewN ?_ _ | refine blk_drew ?_ | refine blk_alloc ?_ _)); exact BK123.out⟩, ⟨by repeat (first | (with_reducible first | exact HB.out | apply below_alloc | apply pw_below_drewN | apply below_drew1 | refine below_set ?_ GE122.out | refine below_set ?_ GE123.out | refine below_set ?_ GE129.out) | exact HB.out)⟩⟩
                            · rw [if_neg c49] at H
                              exact absurd H (by simp)
                          · rw [if_neg c48] at H
                            exact absurd H (by simp)
                        · rw [if_neg c47] at H
                          exact absurd H (by simp)
                · rw [if_neg c27] at H
                  exact absurd H (by simp)
              · rw [if_neg c26] at H
                exact absurd H (by simp)
            · rw [if_neg c25] at H
              have c25b0 : decide (x34_2 < (l0_5.length : Int)) = false := decide_eq_false c25
              clear c25
              by_cases c66 : a0_3 = true
              · subst c66
                have H1 : (some ((⟨#[0]⟩ : ByteArray), 41, a0_0, Go.bits .or .i64 (Go.bits .or .i64 (Go.bits .or .i64 (wrap64 (a0_1 * 16777216)) (wrap64 (a0_2 * 65536))) a0_4) 32768, strOfNums x4_2, 0)) = some (r1, r2, r3, r4, r5, r6) := by rw [if_pos rfl] at H; exact H
                clear H
                have H := H1
                clear H1
                simp only [Option.some.injEq, Prod.mk.injEq] at H
                obtain ⟨rfl, rfl, rfl, rfl, rfl, rfl⟩ := H
                have hnb67 := NB122_123.out
                have hnc67 := NB123_122.out
                (try clear hcz24_0 hcz24_1 hcz24_2 hcz24_3 hcz24_4 hcz24_5 hfz24_0 hfz24_1 hfz24_2 hfz24_3 hfz24_4 hfz24_5)
                (try clear hcz32_0 hcz32_1 hfz32_0 hfz32_1)
                (try clear hcz37_0 hcz37_1 hfz37_0 hfz37_1)
                (try clear hcz40_0 hcz40_1 hfz40_0 hfz40_1)
                (try clear hcz44_0 hcz44_1 hcz44_2 hcz44_3 hcz44_4 hfz44_0 hfz44_1 hfz44_2 hfz44_3 hfz44_4)
                (try clear hcz59_0 hcz59_1 hcz59_2 hcz59_3 hcz59_4 hfz59_0 hfz59_1 hfz59_2 hfz59_3 hfz59_4)
                have hcz68_0 : wr.cell? ⟨gb122, 0, none⟩ = some (.int .i64 a0_0) := (blk_cell BK122.out 0).trans rfl
                have hcz68_1 : wr.cell? ⟨gb122, 1, none⟩ = some (.int .i64 a0_1) := (blk_cell BK122.out 1).trans rfl
                have hcz68_2 : wr.cell? ⟨gb122, 2, none⟩ = some (.int .i64 a0_2) := (blk_cell BK122.out 2).trans rfl
                have hcz68_3 : wr.cell? ⟨gb122, 3, none⟩ = some (.bool true) := (blk_cell BK122.out 3).trans rfl
                have hcz68_4 : wr.cell? ⟨gb122, 4, none⟩ = some (.int .i64 a0_4) := (blk_cell BK122.out 4).trans rfl
                have hcz68_5 : wr.cell? ⟨gb122, 5, none⟩ = some (.slice A0_5 l0_5.length c0_5) := (blk_cell BK122.out 5).trans rfl
                have hfz68_0 := blk_frozen BK122.out 0
                have hfz68_1 := blk_frozen BK122.out 1
                have hfz68_2 := blk_frozen BK122.out 2
                have hfz68_3 := blk_frozen BK122.out 3
                have hfz68_4 := blk_frozen BK122.out 4
                have hfz68_5 := blk_frozen BK122.out 5
                have hcv69 := own_string (P := Try.prog) Try.underlying54 Try.underlying5 Try.underlying9 (Kd.own_of_R HO_4.out)
                (try clear hcz32_0 hcz32_1 hfz32_0 hfz32_1)
                (try clear hcz37_0 hcz37_1 hfz37_0 hfz37_1)
                (try clear hcz40_0 hcz40_1 hfz40_0 hfz40_1)
                (try clear hcz44_0 hcz44_1 hcz44_2 hcz44_3 hcz44_4 hfz44_0 hfz44_1 hfz44_2 hfz44_3 hfz44_4)
                (try clear hcz59_0 hcz59_1 hcz59_2 hcz59_3 hcz59_4 hfz59_0 hfz59_1 hfz59_2 hfz59_3 hfz59_4)
                have hcz70_0 : wr.cell? ⟨gb123, 0, none⟩ = some (.string x124000_2) := (blk_cell BK123.out 0).trans rfl
                have hcz70_1 : wr.cell? ⟨gb123, 1, none⟩ = some (.int .i64 x124001_2) := (blk_cell BK123.out 1).trans rfl
                have hcz70_2 : wr.cell? ⟨gb123, 2, none⟩ = some (.int .i64 x124002_2) := (blk_cell BK123.out 2).trans rfl
                have hcz70_3 : wr.cell? ⟨gb123, 3, none⟩ = some (.int .i64 x124003_2) := (blk_cell BK123.out 3).trans rfl
                have hcz70_4 : wr.cell? ⟨gb123, 4, none⟩ = some (.string x124004_2) := (blk_cell BK123.out 4).trans rfl
                have hfz70_0 := blk_frozen BK123.out 0
                have hfz70_1 := blk_frozen BK123.out 1
                have hfz70_2 := blk_frozen BK123.out 2
                have hfz70_3 := blk_frozen BK123.out 3
                have hfz70_4 := blk_frozen BK123.out 4
                go_wp2
                refine bodyPost_ret (results_ct rfl _ _ gb123 26 #[.string (⟨#[0]⟩ : ByteArray), .int .i64 41, .int .i64 a0_0, .int .i64 (Go.bits .or .i64 (Go.bits .or .i64 (Go.bits .or .i64 (wrap64 (a0_1 * 16777216)) (wrap64 (a0_2 * 65536))) a0_4) 32768), .string (strOfNums x4_2)] (0, 0) _ rfl (by (with_reducible repeat (first | refine blk_drewN ?_ _ | refine blk_drew ?_ | refine blk_alloc ?_ _)); refine blk_put (cs := #[.string (⟨#[0]⟩ : ByteArray), .int .i64 41, .int .i64 a0_0, .int .i64 (Go.bits .or .i64 (Go.bits .or .i64 (Go.bits .or .i64 (wrap64 (a0_1 * 16777216)) (wrap64 (a0_2 * 65536))) a0_4) 32768), .string x124004_2]) ?_ 4 _ rfl; (with_reducible repeat (first | refine blk_drewN ?_ _ | refine blk_drew ?_ | refine blk_alloc ?_ _)); refine blk_put (cs := #[.string (⟨#[0]⟩ : ByteArray), .int .i64 41, .int .i64 a0_0, .int .i64 x124003_2, .string x124004_2]) ?_ 3 _ rfl; (with_reducible repeat (first | refine blk_drewN ?_ _ | refine blk_drew ?_ | refine blk_alloc ?_ _)); refine blk_put (cs := #[.string (⟨#[0]⟩ : ByteArray), .int .i64 41, .int .i64 x124002_2, .int .i64 x124003_2, .string x124004_2]) ?_ 2 _ rfl; (with_reducible repeat (first | refine blk_drewN ?_ _ | refine blk_drew ?_ | refine blk_alloc ?_ _)); refine blk_put (cs := #[.string (⟨#[0]⟩ : ByteArray), .int .i64 x124001_2, .int .i64 x124002_2, .int .i64 x124003_2, .string x124004_2]) ?_ 1 _ rfl; (with_reducible repeat (first | refine blk_drewN ?_ _ | refine blk_drew ?_ | refine blk_alloc ?_ _)); refine blk_put (cs := #[.string x124000_2, .int .i64 x124001_2, .int .i64 x124002_2, .int .i64 x124003_2, .string x124004_2]) ?_ 0 _ rfl; (with_reducible repeat (first | refine blk_drewN ?_ _ | refine blk_drew ?_ | refine blk_alloc ?_ _)); exact BK123.out) Try.underlying26 rfl (by kernel_rfl)) rfl ?_
                exact ⟨by first | rfl | (simp [errW_none, errW_some] <;> rfl) | (simp [*, errW_none, errW_some] <;> rfl), by repeat (first | (with_reducible first | exact HB.out | apply below_alloc | apply pw_below_drewN | apply below_drew1 | refine below_set ?_ GE122.out | refine below_set ?_ GE123.out) | exact HB.out)⟩
              · replace c66 := Bool.eq_false_iff.mpr c66
                subst c66
                have H1 : (some ((⟨#[0]⟩ : ByteArray), 41, a0_0, Go.bits .or .i64 (Go.bits .or .i64 (wrap64 (a0_1 * 16777216)) (wrap64 (a0_2 * 65536))) a0_4, strOfNums x4_2, 0)) = some (r1, r2, r3, r4, r5, r6) := by rw [if_neg (show ¬ (false = true) by decide)] at H; exact H
                clear H
                have H := H1
                clear H1
                simp only [Option.some.injEq, Prod.mk.injEq] at H
                obtain ⟨rfl, rfl, rfl, rfl, rfl, rfl⟩ := H
                have hnb71 := NB122_123.out
                have hnc71 := NB123_122.out
                (try clear hcz37_0 hcz37_1 hfz37_0 hfz37_1)
                (try clear hcz40_0 hcz40_1 hfz40_0 hfz40_1)
                (try clear hcz44_0 hcz44_1 hcz44_2 hcz44_3 hcz44_4 hfz44_0 hfz44_1 hfz44_2 hfz44_3 hfz44_4)
                (try clear hcz59_0 hcz59_1 hcz59_2 hcz59_3 hcz59_4 hfz59_0 hfz59_1 hfz59_2 hfz59_3 hfz59_4)
                have hcz72_0 : wr.cell? ⟨gb122, 0, none⟩ = some (.int .i64 a0_0) := (blk_cell BK122.out 0).trans rfl
                have hcz72_1 : wr.cell? ⟨gb122, 1, none⟩ = some (.int .i64 a0_1) := (blk_cell BK122.out 1).trans rfl
                have hcz72_2 : wr.cell? ⟨gb122, 2, none⟩ = some (.int .i64 a0_2) := (blk_cell BK122.out 2).trans rfl
                have hcz72_3 : wr.cell? ⟨gb122, 3, none⟩ = some (.bool false) := (blk_cell BK122.out 3).trans rfl
                have hcz72_4 : wr.cell? ⟨gb122, 4, none⟩ = some (.int .i64 a0_4) := (blk_cell BK122.out 4).trans rfl
                have hcz72_5 : wr.cell? ⟨gb122, 5, none⟩ = some (.slice A0_5 l0_5.length c0_5) := (blk_cell BK122.out 5).trans rfl
                have hfz72_0 := blk_frozen BK122.out 0
                have hfz72_1 := blk_frozen BK122.out 1
                have hfz72_2 := blk_frozen BK122.out 2
                have hfz72_3 := blk_frozen BK122.out 3
                have hfz72_4 := blk_frozen BK122.out 4
                have hfz72_5 := blk_frozen BK122.out 5
                have hcv73 := own_string (P := Try.prog) Try.underlying54 Try.underlying5 Try.underlying9 (Kd.own_of_R HO_4.out)
                (try clear hcz40_0 hcz40_1 hfz40_0 hfz40_1)
                (try clear hcz44_0 hcz44_1 hcz44_2 hcz44_3 hcz44_4 hfz44_0 hfz44_1 hfz44_2 hfz44_3 hfz44_4)
                (try clear hcz59_0 hcz59_1 hcz59_2 hcz59_3 hcz59_4 hfz59_0 hfz59_1 hfz59_2 hfz59_3 hfz59_4)
                have hcz74_0 : wr.cell? ⟨gb123, 0, none⟩ = some (.string x124000_2) := (blk_cell BK123.out 0).trans rfl
                have hcz74_1 : wr.cell? ⟨gb123, 1, none⟩ = some (.int .i64 x124001_2) := (blk_cell BK123.out 1).trans rfl
                have hcz74_2 : wr.cell? ⟨gb123, 2, none⟩ = some (.int .i64 x124002_2) := (blk_cell BK123.out 2).trans rfl
                have hcz74_3 : wr.cell? ⟨gb123, 3, none⟩ = some (.int .i64 x124003_2) := (blk_cell BK123.out 3).trans rfl
                have hcz74_4 : wr.cell? ⟨gb123, 4, none⟩ = some (.string x124004_2) := (blk_cell BK123.out 4).trans rfl
                have hfz74_0 := blk_frozen BK123.out 0
                have hfz74_1 := blk_frozen BK123.out 1
                have hfz74_2 := blk_frozen BK123.out 2
                have hfz74_3 := blk_frozen BK123.out 3
                have hfz74_4 := blk_frozen BK123.out 4
                go_wp2
                refine bodyPost_ret (results_ct rfl _ _ gb123 26 #[.string (⟨#[0]⟩ : ByteArray), .int .i64 41, .int .i64 a0_0, .int .i64 (Go.bits .or .i64 (Go.bits .or .i64 (wrap64 (a0_1 * 16777216)) (wrap64 (a0_2 * 65536))) a0_4), .string (strOfNums x4_2)] (0, 0) _ rfl (by (with_reducible repeat (first | refine blk_drewN ?_ _ | refine blk_drew ?_ | refine blk_alloc ?_ _)); refine blk_put (cs := #[.string (⟨#[0]⟩ : ByteArray), .int .i64 41, .int .i64 a0_0, .int .i64 (Go.bits .or .i64 (Go.bits .or .i64 (wrap64 (a0_1 * 16777216)) (wrap64 (a0_2 * 65536))) a0_4), .string x124004_2]) ?_ 4 _ rfl; (with_reducible repeat (first | refine blk_drewN ?_ _ | refine blk_drew ?_ | refine blk_alloc ?_ _)); refine blk_put (cs := #[.string (⟨#[0]⟩ : ByteArray), .int .i64 41, .int .i64 a0_0, .int .i64 x124003_2, .string x124004_2]) ?_ 3 _ rfl; (with_reducible repeat (first | refine blk_drewN ?_ _ | refine blk_drew ?_ | refine blk_alloc ?_ _)); refine blk_put (cs := #[.string (⟨#[0]⟩ : ByteArray), .int .i64 41, .int .i64 x124002_2, .int .i64 x124003_2, .string x124004_2]) ?_ 2 _ rfl; (with_reducible repeat (first | refine blk_drewN ?_ _ | refine blk_drew ?_ | refine blk_alloc ?_ _)); refine blk_put (cs := #[.string (⟨#[0]⟩ : ByteArray), .int .i64 x124001_2, .int .i64 x124002_2, .int .i64 x124003_2, .string x124004_2]) ?_ 1 _ rfl; (with_reducible repeat (first | refine blk_drewN ?_ _ | refine blk_drew ?_ | refine blk_alloc ?_ _)); refine blk_put (cs := #[.string x124000_2, .int .i64 x124001_2, .int .i64 x124002_2, .int .i64 x124003_2, .string x124004_2]) ?_ 0 _ rfl; (with_reducible repeat (first | refine blk_drewN ?_ _ | refine blk_drew ?_ | refine blk_alloc ?_ _)); exact BK123.out) Try.underlying26 rfl (by kernel_rfl)) rfl ?_
                exact ⟨by first | rfl | (simp [errW_none, errW_some] <;> rfl) | (simp [*, errW_none, errW_some] <;> rfl), by repeat (first | (with_reducible first | exact HB.out | apply below_alloc | apply pw_below_drewN | apply below_drew1 | refine below_set ?_ GE122.out | refine below_set ?_ GE123.out) | exact HB.out)⟩

end Go.Proofs.Ytndcjleadggibaa.POz
