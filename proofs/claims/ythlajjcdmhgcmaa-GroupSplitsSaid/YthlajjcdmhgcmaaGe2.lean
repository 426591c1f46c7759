/- Plain numbers: bits of 64-bit whole numbers, bytes of strings. -/
import Derived.Laws.BitsLemmas
import Derived.Laws.BytesArg
import Derived.RowKit
import Derived.IntWalk
import Derived.PlainAid
import Derived.Below
import Derived.Lib.QuietBelow
import Derived.WalkKit
import Derived.Deep.AppendLies
import Derived.Laws.OwnMore
import Derived.OwnWalk
import Derived.Maps.AppendAt
import Derived.Laws.StructEq
import Derived.MapKept
import Derived.Tactics2
import Derived.Test.YthlajjcdmhgcmaaProg
import Derived.KernelRfl
import Derived.BigQuiet
import Derived.Deep.QuietTactic
import Derived.WalkLawsBesides
import Derived.Lib.Hide
import Derived.Deep.LoopGhost
import Derived.Lib.ConvBytes
import Derived.Laws.IdiomStrings
import Derived.Shelf.Strings.Builder1
import Derived.Deep.RegionHeld3
import Derived.Deep.CutBlock
import Derived.Shelf.Sort.Plain
import Derived.Shelf.Slices.CompactS
import Derived.Shelf.Slices.Cells
import Derived.Shelf.Slices.In.SortNone
import Derived.Sort.OwnSorted
import Derived.Lib.OwnBridge
import Derived.Deep.RegionLaw
import Derived.Deep.OwnRows
import Derived.Deep.Draws
import Derived.Laws.MakeOwn
import Derived.Tactics
import Derived.Laws.Slices
import Derived.RowKit3
import Derived.WideLaws
import Derived.Deep.DeepCutAuto
import Derived.Laws.Rows
import Derived.Lib.AppendStr
import Derived.ArgAppend
import Derived.Laws.IdiomCopy
import Derived.OrdersHeld
import Derived.Test.YthlajjcdmhgcmaaGe1
namespace Go.Proofs.Ythlajjcdmhgcmaa.Base
open Go.RowKit Go.PlainAid

theorem wraps_i64 (n : Int) (h0 : 0 ≤ n) (h1 : n < 2 ^ 63) : IntKind.i64.wrap n = n := by
  rw [IntKind.wrap_i64]; omega

theorem and_mask (i : Nat) (hi : i ≤ 63) (x : Int) : Go.bits .and .i64 x (2 ^ i - 1) = x % 2 ^ i := by
  have hpos : 0 < 2 ^ i := Nat.two_pow_pos i
  have hle : 2 ^ i ≤ 2 ^ 63 := Nat.pow_le_pow_right (by decide) hi
  have hc : ((2 : Int) ^ i - 1) = ((2 ^ i - 1 : Nat) : Int) := by rw [Int.natCast_sub hpos]; simp
  have hm : (2 ^ i - 1) % 2 ^ 64 = 2 ^ i - 1 := Nat.mod_eq_of_lt (by omega)
  have hx : (BitVec.ofInt 64 x).toNat = (x % 18446744073709551616).toNat := by simp [BitVec.toNat_ofInt]
  have e : ((x % 18446744073709551616).toNat : Int) = x % 18446744073709551616 := by omega
  have hd : (2 : Int) ^ i ∣ 18446744073709551616 := by
    have : (18446744073709551616 : Int) = 2 ^ i * 2 ^ (64 - i) := by rw [← Int.pow_add]; rw [show i + (64 - i) = 64 by omega]; decide
    exact ⟨_, this⟩
  rw [hc]
  show IntKind.i64.wrap (((BitVec.ofInt 64 x &&& BitVec.ofInt 64 ((2 ^ i - 1 : Nat) : Int)).toNat : Nat) : Int) = _
  rw [BitVec.toNat_and, BitVec.ofInt_natCast, BitVec.toNat_ofNat, hm, hx, Nat.and_two_pow_sub_one_eq_mod]
  have e2 : (((x % 18446744073709551616).toNat % 2 ^ i : Nat) : Int) = x % 2 ^ i := by
    rw [Int.natCast_emod, e]; push_cast
    exact Int.emod_emod_of_dvd _ hd
  rw [e2]
  have h2 : (0 : Int) < 2 ^ i := by exact_mod_cast hpos
  have h3 : (2 : Int) ^ i ≤ 2 ^ 63 := by exact_mod_cast hle
  have := Int.emod_nonneg x (Int.ne_of_gt h2)
  have := Int.emod_lt_of_pos x h2
  exact wraps_i64 _ (by assumption) (by omega)

theorem and_1 (x : Int) : Go.bits .and .i64 x 1 = x % 2 := and_mask 1 (by decide) x

theorem w64 {x : Int} (h0 : -9223372036854775808 ≤ x) (h1 : x ≤ 9223372036854775807) : wrap64 x = x := IntWalk.wrap64_in x ⟨h0, h1⟩

/-! ### Strings and their bytes -/
theorem len_data (s : ByteArray) : s.data.toList.length = s.size := by rw [Array.length_toList]; rfl
theorem bt_data (s : ByteArray) (i : Nat) : bt s i = ((s.data.toList.getD i 0).toNat : Int) := by
  unfold bt
  split
  · rename_i h
    have : i < s.data.toList.length := by rw [len_data]; exact h
    rw [List.getD_eq_getElem?_getD, List.getElem?_eq_getElem this]
    rfl
  · rename_i h
    rw [List.getD_eq_getElem?_getD, List.getElem?_eq_none (by rw [len_data]; omega)]
    rfl
/-! ### Worlds -/
theorem below_then {B : Nat} {w w1 w2 : World} (h : Below B w w1) (hB : B ≤ w1.heap.size) (k : Below w1.heap.size w1 w2) : Below B w w2 :=
  h.trans ⟨k.os, k.tape, k.output, k.size, fun i hi => k.block i (Nat.lt_of_lt_of_le hi hB)⟩
theorem below_alloc {w W : World} (h : Below w.heap.size w W) (o : Obj) : Below w.heap.size w (W.alloc o) := h.alloc h.size o
theorem below_next {w w1 w2 : World} (h : Below w.heap.size w w1) (k : Below w1.heap.size w1 w2) : Below w.heap.size w w2 := below_then h h.size k
/-- What was there reads as before. -/
theorem bcell {w w1 : World} (h : Below w.heap.size w w1) {a : Addr} {v : Value} (hc : w.cell? a = some v) : w1.cell? a = some v := (h.cell (World.block_lt_of_cell? w a hc)).trans hc
end Go.Proofs.Ythlajjcdmhgcmaa.Base

namespace Go.Proofs.Ythlajjcdmhgcmaa.Sl
open Go.RowKit Go.PlainAid Go.Proofs.Ythlajjcdmhgcmaa.Base
set_option linter.unusedVariables false

section
variable {w : World} {base size n : Nat} {e : TypeId} {v : Value} {xs : List Value}
theorem own_base (h : w.ownsRow base e size v n xs) (k : Nat) (hk : v.ownBlock = some k) : base ≤ k := by
  rcases h.2 with ⟨rfl, _⟩ | ⟨g, cap, cur, rfl, hb, _⟩
  · simp [Value.ownBlock] at hk
  · have : g = k := by simpa [Value.ownBlock] using hk
    omega
/-- What was owned is owned still where nothing that was there has turned. -/
theorem own_below {w' : World} (h : w.ownsRow base e size v n xs) (hb : Below w.heap.size w w') : w'.ownsRow base e size v n xs :=
  h.kept (row := none) ⟨hb.os, hb.tape, hb.output, hb.size, fun i hi _ => hb.block i hi⟩ (by cases v.ownBlock <;> simp)
/-- The shape of whatever is owned. -/
theorem own_slice (h : w.ownsRow base e size v n xs) : ∃ A c, v = .slice A n c := by
  rcases h.2 with ⟨rfl, rfl⟩ | ⟨g, cap, cur, rfl, _⟩
  · simp_all
  · exact ⟨_, cap, rfl⟩
end

section
variable {P : Program} {ops : Array Oper} {rest : List Oper} {o : Oper} {a : Act} {Q : Exit → Act → World → Prop}
/-- append(v, x), x an element of the cells cs, which lies in the variadic's own block. -/
theorem append_row {w0 W : World} (base : Nat) (hgd : o.guard = none) (s x : Operand) (t e : TypeId) (z : Value) (size bytes : Nat)
    (ho : o.op = .call { callee := .builtin .append, args := #[s, x], argTypes := #[t, t] })
    (ht : P.underlying t = some (.slice e)) (hinfo : (P.info? e).map (fun i => (i.zero, i.size, i.bytes)) = some (some z, size, bytes)) (hz : z.cells.size = size) (hsz : 0 < size)
    {v : Value} {n : Nat} {xs : List Value} (HO : W.ownsRow base e size v n xs) (cs : Array Value) (hs : a.eval s = v) (hx : a.eval x = .slice (some ⟨W.heap.size, 0, none⟩) 1 1)
    (hc : cs.size = size) (h1 : ∀ u ∈ cs.toList, u.oneCell' = true)
    (HB : Below base w0 W) (hbase : base ≤ W.heap.size) (hn : n + 1 ≤ 140737488355328) (hl : (n + 1) * bytes ≤ 140737488355328)
    (h : ∀ v1 w1, w1.ownsRow base e size v1 (n + 1) (xs ++ cs.toList) → Below base w0 w1 → wpList P ops Q rest (a.put o.dst v1) w1) :
    wpList P ops Q (o :: rest) a (W.alloc (.cells cs e)) := by
  obtain ⟨i0, hi, hz0, hz1, hz2⟩ := info_parts hinfo
  refine wpList_append_own (W.alloc (.cells cs e)) hgd s x t ho base e i0 z size bytes ht hi hz0 hz1 hz2 hz hsz v n xs hs (HO.alloc _) ⟨W.heap.size, 0, none⟩ 1 1 cs.toList hx (by simp [hc])
    (World.news_of_block (cs := cs) (t := e) (fr := (0, 0)) (heap_alloc_new W _)) h1 (by simp only [maxLen]; omega) hl (by simp; omega) ?_
  intro v1 w1 hown hg _
  exact h v1 w1 hown ((HB.alloc hbase _).grown hg (by simp; omega) (own_base HO))
end
end Go.Proofs.Ythlajjcdmhgcmaa.Sl

namespace Go.Proofs.Ythlajjcdmhgcmaa.RE
open Go.RowKit
set_option linter.unusedVariables false
section
variable {P : Program} {ops : Array Oper} {Q : Exit → Act → World → Prop}
def un (l : Array Bool) : Nat := l.toList.count false
def has (l : Array Bool) (j : Nat) : Prop := l.getD j false = true
theorem un_set {l : Array Bool} {i : Nat} (hi : i < l.size) (h : l.getD i true = false) : un (l.setIfInBounds i true) + 1 = un l := by
  have hi' : i < l.toList.length := by simpa using hi
  have hg : l.toList[i] = false := by
    have : l[i] = false := by simpa [hi] using h
    simpa using this
  unfold un
  rw [Array.toList_setIfInBounds, List.count_set hi', hg]
  have : 0 < l.toList.count false := List.count_pos_iff.2 (by rw [← hg]; exact List.getElem_mem hi')
  show l.toList.count false - 1 + 0 + 1 = l.toList.count false
  omega
theorem has_set {l : Array Bool} {i j : Nat} (hi : i < l.size) : has (l.setIfInBounds i true) j ↔ j = i ∨ has l j := by
  unfold has
  rw [Array.getD_eq_getD_getElem?, Array.getD_eq_getD_getElem?, Array.getElem?_setIfInBounds]
  by_cases h : i = j
  · subst h; simp [hi]
  · rw [if_neg h]
    constructor
    · exact .inr
    · rintro (e | e)
      · exact absurd e.symm h
      · exact e
theorem ready_parts {l : Array Bool} {i : Nat} (h : i ∈ Region.ready .any ops l) : i < ops.size ∧ l.getD i true = false ∧ ∀ o, ops[i]? = some o → ∀ e ∈ o.after, Region.binds .any e = true → has l e.on := by
  unfold Region.ready at h
  obtain ⟨h1, h2⟩ := List.mem_filter.1 h
  rw [Bool.and_eq_true] at h2
  refine ⟨List.mem_range.1 h1, by simpa using h2.1, fun o ho e he hb => ?_⟩
  have h3 := h2.2
  rw [ho] at h3
  simp only [Option.map_some, Option.getD_some] at h3
  rw [Array.all_eq_true'] at h3
  have := h3 e he
  rw [hb] at this
  simpa [has] using this
theorem any_each {J : Array Bool → Act → World → Prop}
    (hs : ∀ (i : Nat) (o : Oper) (l : Array Bool) (a : Act) (w : World), ops[i]? = some o → l.size = ops.size → i < l.size → l.getD i true = false → (∀ e ∈ o.after, Region.binds .any e = true → has l e.on) → J l a w →
      ∀ K' : Act → World → Prop, (∀ a w, J (l.setIfInBounds i true) a w → K' a w) → if Region.wanted o (yielded ops a.tmps) = true then Oper.wp P o a w K' Q else K' (a.put o.dst undef) w)
    (hd : ∀ l a w, Region.ready .any ops l = [] → l.size = ops.size → J l a w → Q .normal a w) :
    ∀ (n : Nat) (l : Array Bool) (a : Act) (w : World), l.size = ops.size → un l ≤ n → J l a w → wpAny P .any ops Q n l a w
  | 0, l, a, w, hl, hn, hJ => by
    have hr : Region.ready .any ops l = [] := by
      rw [List.eq_nil_iff_forall_not_mem]
      intro i hi
      obtain ⟨h1, h2, _⟩ := ready_parts hi
      have := un_set (by omega : i < l.size) h2
      omega
    exact ⟨hr, hd l a w hr hl hJ⟩
  | n + 1, l, a, w, hl, hn, hJ => by
    refine ⟨fun hr => hd l a w hr hl hJ, fun i hi => ?_⟩
    obtain ⟨h1, h2, h3⟩ := ready_parts hi
    have ho : ops[i]? = some ops[i] := Array.getElem?_eq_getElem h1
    refine wpOp_step ho (fun K' hK => hs i ops[i] l a w ho hl (by omega) h2 (h3 _ ho) hJ K' (fun a' w' h' => hK a' w' ?_))
    have := un_set (by omega : i < l.size) h2
    exact any_each hs hd n _ a' w' (by simpa using hl) (by omega) h'
theorem region_each {id : Nat} {a0 : Act} {w0 : World} {J : Array Bool → Act → World → Prop} (hm : P.follows .mixedOrders = true)
    (h0 : J (Array.replicate ops.size false) a0 w0.drew)
    (hs : ∀ (i : Nat) (o : Oper) (l : Array Bool) (a : Act) (w : World), ops[i]? = some o → l.size = ops.size → i < l.size → l.getD i true = false → (∀ e ∈ o.after, Region.binds .any e = true → has l e.on) → J l a w →
      ∀ K' : Act → World → Prop, (∀ a w, J (l.setIfInBounds i true) a w → K' a w) → if Region.wanted o (yielded ops a.tmps) = true then Oper.wp P o a w K' Q else K' (a.put o.dst undef) w)
    (hd : ∀ l a w, Region.ready .any ops l = [] → l.size = ops.size → J l a w → Q .normal a w) : (Code.region id ops true).wp P Q a0 w0 := by
  refine wp_region_any hm (any_each hs hd ops.size _ a0 _ (by simp) ?_ h0)
  unfold un
  simp
/-- Nothing but the slots of D has turned. -/
structure Fr (a0 a : Act) (D : List Tmp) : Prop where
  defers : a.defers = a0.defers
  size : a.tmps.size = a0.tmps.size
  same : ∀ t, t ∉ D → a.tmps[t]? = a0.tmps[t]?
theorem Fr.refl (a : Act) (D : List Tmp) : Fr a a D := ⟨rfl, rfl, fun _ _ => rfl⟩
theorem Fr.put {a0 a : Act} {D : List Tmp} (h : Fr a0 a D) {t : Tmp} (ht : t ∈ D) (v : Value) : Fr a0 (a.put (some t) v) D := by
  refine ⟨h.defers, by show (a.tmps.setIfInBounds t v).size = _; rw [Array.size_setIfInBounds]; exact h.size, fun u hu => ?_⟩
  show (a.tmps.setIfInBounds t v)[u]? = _
  rw [Array.getElem?_setIfInBounds, if_neg (fun e : t = u => hu (by rw [← e]; exact ht))]
  exact h.same u hu
theorem get_put (a : Act) (t u : Tmp) (v : Value) (ht : t < a.tmps.size) : (a.put (some t) v).eval (.tmp u) = if u = t then v else a.eval (.tmp u) := by
  show (a.tmps.setIfInBounds t v).getD u undef = if u = t then v else a.tmps.getD u undef
  rw [Array.getD_eq_getD_getElem?, Array.getD_eq_getD_getElem?, Array.getElem?_setIfInBounds]
  by_cases h : t = u
  · subst h; simp [ht]
  · rw [if_neg h, if_neg (fun e => h e.symm)]
theorem Fr.get {a0 a : Act} {D : List Tmp} (h : Fr a0 a D) {t : Tmp} (ht : t ∉ D) : a.eval (.tmp t) = a0.eval (.tmp t) := by
  show a.tmps.getD t undef = a0.tmps.getD t undef
  rw [Array.getD_eq_getD_getElem?, Array.getD_eq_getD_getElem?, h.same t ht]
/-- The act written out: the elder one with the slots of D filled. -/
theorem Fr.refill {a0 a : Act} : ∀ {D : List Tmp}, Fr a0 a D → a = ⟨D.foldl (fun x t => x.setIfInBounds t (a.eval (.tmp t))) a0.tmps, a0.defers⟩ := by
  intro D h
  have key : ∀ (D : List Tmp) (x : Array Value), x.size = a.tmps.size → (∀ t, t ∉ D → x[t]? = a.tmps[t]?) → D.foldl (fun x t => x.setIfInBounds t (a.eval (.tmp t))) x = a.tmps := by
    intro D
    induction D with
    | nil => intro x hx hs; exact Array.ext_getElem? (fun i => hs i (by simp))
    | cons d D ih =>
      intro x hx hs
      refine ih _ (by rw [Array.size_setIfInBounds]; exact hx) (fun t ht => ?_)
      rw [Array.getElem?_setIfInBounds]
      by_cases e : d = t
      · subst e
        rw [if_pos rfl]
        by_cases hl : d < x.size
        · have hl2 : d < a.tmps.size := by rw [← hx]; exact hl
          rw [if_pos hl, Array.getElem?_eq_getElem hl2]
          show some (a.tmps.getD d undef) = _
          rw [Array.getD_eq_getD_getElem?, Array.getElem?_eq_getElem hl2]; rfl
        · have hl2 : a.tmps.size ≤ d := by rw [← hx]; exact Nat.le_of_not_lt hl
          rw [if_neg hl, Array.getElem?_eq_none hl2]
      · rw [if_neg e]
        exact hs t (by intro q; rcases List.mem_cons.1 q with q | q; exact e q.symm; exact ht q)
  have := key D a0.tmps h.size.symm (fun t ht => (h.same t ht).symm)
  rw [this, ← h.defers]
theorem not_has {l : Array Bool} {i : Nat} (hi : i < l.size) (h : l.getD i true = false) : ¬ has l i := by
  unfold has
  rw [Array.getD_eq_getD_getElem?, Array.getElem?_eq_getElem hi] at h ⊢
  simpa using h
/-- Nothing may come up any more: all has come up (where what an operation waits for stands ahead of it). -/
theorem all_has {l : Array Bool} (hl : l.size = ops.size) (hb : ((List.range ops.size).all fun i => ((ops[i]?).map fun o => o.after.all fun e => !Region.binds .any e || decide (e.on < i)).getD true) = true) (hr : Region.ready .any ops l = []) :
    ∀ i, i < ops.size → has l i := by
  intro i
  induction i using Nat.strongRecOn with
  | _ i ih =>
    intro hi
    rcases Classical.em (has l i) with h | h
    · exact h
    · exfalso
      have h0 : l.getD i true = false := by
        unfold has at h
        rw [Array.getD_eq_getD_getElem?, Array.getElem?_eq_getElem (by omega)] at h ⊢
        simpa using h
      have ho : ops[i]? = some ops[i] := Array.getElem?_eq_getElem hi
      have hbi := List.all_eq_true.1 hb i (List.mem_range.2 hi)
      rw [ho] at hbi
      simp only [Option.map_some, Option.getD_some] at hbi
      rw [Array.all_eq_true'] at hbi
      have : i ∈ Region.ready .any ops l := by
        unfold Region.ready
        refine List.mem_filter.2 ⟨List.mem_range.2 hi, ?_⟩
        rw [h0, ho]
        simp only [Bool.not_false, Bool.true_and, Option.map_some, Option.getD_some]
        rw [Array.all_eq_true']
        intro e he
        have h1 := hbi e he
        cases hbe : Region.binds .any e with
        | false => rfl
        | true =>
          rw [hbe] at h1
          have hlt : e.on < i := by simpa using h1
          have := ih e.on hlt (by omega)
          unfold has at this
          rw [this]; rfl
      rw [hr] at this
      cases this
theorem need {o : Oper} {l : Array Bool} (hn : ∀ e ∈ o.after, Region.binds .any e = true → has l e.on) {js : List Nat} (h : (js.all fun j => o.after.any fun e => e.on == j && Region.binds .any e) = true) : ∀ j ∈ js, has l j := by
  intro j hj
  have h1 := List.all_eq_true.1 h j hj
  rw [Array.any_eq_true'] at h1
  obtain ⟨e, he, h2⟩ := h1
  rw [Bool.and_eq_true, beq_iff_eq] at h2
  rw [← h2.1]
  exact hn e he h2.2
theorem step_val {o : Oper} {a : Act} {w w' : World} {K : Act → World → Prop} {v : Value} {t : Tmp} (hg : o.guard = none) (hd : o.dst = some t) (hrun : (execOp a.eval o).run P w = .ok (.value v) w') (h : K (a.put (some t) v) w') :
    if Region.wanted o (yielded ops a.tmps) = true then Oper.wp P o a w K Q else K (a.put o.dst undef) w := by
  have hw : Region.wanted o (yielded ops a.tmps) = true := by unfold Region.wanted; rw [hg]
  rw [if_pos hw]
  unfold Oper.wp
  simp only [hrun]
  show K (a.put o.dst v) w'
  rw [hd]
  exact h
/-- What has come up has left what it leaves. -/
structure JS (a0 : Act) (w0 : World) (rb : Option Nat) (D : List Tmp) (S : Nat → Value → World → Prop) (l : Array Bool) (a : Act) (w : World) : Prop where
  fr : Fr a0 a D
  grown : w0.grownBy w rb
  spec : ∀ j, j < D.length → has l j → S j (a.eval (.tmp (D.getD j 0))) w
theorem JS.start {a0 : Act} {w0 : World} {rb : Option Nat} {D : List Tmp} {S : Nat → Value → World → Prop} {m : Nat} : JS a0 w0 rb D S (Array.replicate m false) a0 w0.drew :=
  ⟨Fr.refl _ _, ⟨rfl, rfl, rfl, Nat.le_refl _, fun _ _ _ => rfl⟩, fun j _ h => by
    unfold has at h
    rw [Array.getD_eq_getD_getElem?, Array.getElem?_replicate] at h
    split at h <;> simp at h⟩
theorem JS.put {a0 a : Act} {w0 w w' : World} {rb : Option Nat} {D : List Tmp} {S : Nat → Value → World → Prop} {l : Array Bool} (h : JS a0 w0 rb D S l a w) {i : Nat} {v : Value} (hi : i < D.length) (hil : i < l.size) (hnd : D.Nodup) (hlt : D.getD i 0 < a0.tmps.size)
    (hg : w.grownBy w' rb) (hm : ∀ j, j < D.length → has l j → ∀ v, S j v w → S j v w') (hS : S i v w') : JS a0 w0 rb D S (l.setIfInBounds i true) (a.put (some (D.getD i 0)) v) w' := by
  have hget : ∀ j, j < D.length → D.getD j 0 = D[j]! := fun j hj => by rw [List.getD_eq_getElem?_getD, List.getElem?_eq_getElem hj, getElem!_pos D j hj]; rfl
  refine ⟨h.fr.put (by rw [List.getD_eq_getElem?_getD, List.getElem?_eq_getElem hi]; exact List.getElem_mem hi) v, h.grown.trans hg, fun j hj hh => ?_⟩
  rw [get_put _ _ _ _ (by rw [h.fr.size]; exact hlt)]
  by_cases e : j = i
  · subst e
    rw [if_pos rfl]; exact hS
  · have hne : ¬ D.getD j 0 = D.getD i 0 := by
      rw [List.getD_eq_getElem?_getD, List.getElem?_eq_getElem hj, List.getD_eq_getElem?_getD, List.getElem?_eq_getElem hi]
      intro q
      have q : D[j] = D[i] := q
      rcases Nat.lt_or_ge j i with h1 | h1
      · exact List.pairwise_iff_getElem.1 hnd j i hj hi h1 q
      · exact List.pairwise_iff_getElem.1 hnd i j hi hj (by omega) q.symm
    rw [if_neg hne]
    rcases (has_set hil).1 hh with q | q
    · exact absurd q e
    · exact hm j hj q _ (h.spec j hj q)
end
end Go.Proofs.Ythlajjcdmhgcmaa.RE

namespace Go.Proofs.Ythlajjcdmhgcmaa.Mk
open Go.RowKit Go.PlainAid
set_option linter.unusedVariables false
set_option linter.unusedSimpArgs false
abbrev Key := ByteArray × Int
def keyV (k : Key) : Value := .agg #[.string k.1, .int .i64 k.2]
/-- What the map holds: keys, the places of their sets, in the order in which they came. -/
structure Ent where
  key : Key
  val : Int
  born : Nat
def entE (e : Ent) : MapEntry := { key := keyV e.key, val := .int .i64 e.val, born := e.born }
/-- The entries, as one word: the walk's simp is not to part them. -/
def mapE (es : List Ent) : Array MapEntry := (es.map entE).toArray
theorem eqf_cons {P : Program} {d : Nat} {xs ys : Array Value} {f : Field} {fs : List Field} {a b : Value} {r s : Bool} {w : World} (hn : (f.name == "_") = false) (ha : (part f.type xs f.offset).run P w = .ok a w) (hb : (part f.type ys f.offset).run P w = .ok b w) (he : (Op.equalIn d f.type a b).run P w = .ok r w) (hr : (Op.eqFields d xs ys fs).run P w = .ok s w) : (Op.eqFields d xs ys (f :: fs)).run P w = .ok (r && s) w := by
  have hn' : f.name ≠ "_" := by simpa using hn
  rw [Op.eqFields]
  simp only [if_pos hn', Sem.run_bind, ha, hb, he, Result.andThen_ok]
  cases r
  · simp
  · simpa using hr
theorem eqf_nil {P : Program} {d : Nat} {xs ys : Array Value} {w : World} : (Op.eqFields d xs ys []).run P w = .ok true w := by simp [Op.eqFields]
theorem eqA_of {P : Program} {d : Nat} {xs ys : Array Value} {r : Bool} {w : World} {t : TypeId} {fs : Array Field} (hu : P.underlying t = some (.struct fs)) (hp : P.stoodInHeld t = false) (h : (Op.eqFields d xs ys fs.toList).run P w = .ok r w) : (Op.equalIn (d + 1) t (.agg xs) (.agg ys)).run P w = .ok r w := by
  have hf : P.fieldsOf t = fs := by simp [Program.fieldsOf, hu]
  rw [run_equalIn_struct (P := P) w d t xs ys (by rw [hf]; exact hu) hp, hf]
  exact h
def sameK (a b : Key) : Bool := (a.1.toList == b.1.toList) && ((a.2 == b.2) && true)
theorem eqK (a b : Key) (w : World) : (Op.equal 61 (keyV a) (keyV b)).run Try.prog w = .ok (sameK a b) w := by
  show (Op.equalIn 10000 61 (keyV a) (keyV b)).run Try.prog w = .ok (sameK a b) w
  unfold keyV sameK
  refine Mk.eqA_of Try.underlying61 (by kernel_rfl) ?_
  refine Mk.eqf_cons (by rfl) (by go_simp; rfl) (by go_simp; rfl) (by go_simp) ?_
  refine Mk.eqf_cons (by rfl) (by go_simp; rfl) (by go_simp; rfl) (by go_simp) ?_
  exact Mk.eqf_nil
theorem checkK (e : Bool) (k : Key) (w : World) : (Instr.checkKey e 10000 61 (keyV k)).run Try.prog w = .ok () w := by
  unfold Instr.checkKey keyV
  simp only [Sem.run_bind, run_underlying Try.underlying61, Result.andThen]
  go_simp
  rw [MapKept.run_checkKey (k := .string k.1) Try.underlying9 (by simp [MapKept.IsKey]) e 9998]
  simp only [Result.andThen]
  rw [MapKept.run_checkKey (k := .int .i64 k.2) Try.underlying3 (by simp [MapKept.IsKey]) e 9998]
/-- Where a key stands. -/
def findE (k : Key) : List Ent → Nat → Option (Nat × Value)
  | [], _ => none
  | e :: es, i => if sameK k e.key = true then some (i, .int .i64 e.val) else findE k es (i + 1)
theorem askE (k : Key) (w : World) : ∀ (es : List Ent) (i : Nat), (Instr.findAsking 61 (keyV k) (es.map entE) i).run Try.prog w = .ok (findE k es i) w
  | [], i => by simp [Instr.findAsking, findE]
  | e :: es, i => by
    have ih := askE k w es (i + 1)
    rw [List.map_cons, Instr.findAsking]
    simp only [Sem.run_bind, entE, eqK, Result.andThen_ok]
    unfold findE
    cases sameK k e.key
    · simpa using ih
    · simp
theorem findK (k : Key) (w : World) (es : List Ent) : (Instr.findKey 61 (keyV k) (es.map entE)).run Try.prog w = .ok (findE k es 0) w := by
  unfold Instr.findKey
  simp only [Sem.run_bind, run_underlying Try.underlying61, Result.andThen_ok]
  cases es with
  | nil => simp [Instr.findNow, findE]
  | cons e es =>
    have h := askE k w (e :: es) 0
    rw [List.map_cons] at h ⊢
    simpa [Instr.findNow, Instr.sameNow, entE, keyV] using h
theorem lookK (k : Key) (es : List Ent) (gm clock : Nat) (w : World) (hb : w.heap[gm]? = some (.map (mapE es) clock)) :
    (Instr.lookup 57 (.map (some gm)) (keyV k) true).run Try.prog w = .ok (match findE k es 0 with | some r => .tuple #[r.2, .bool true] | none => .tuple #[.int .i64 0, .bool false]) w := by
  have hb : w.heap[gm]? = some (.map (es.map entE).toArray clock) := hb
  have hz : (zeroValue 3).run Try.prog w = .ok (.int .i64 0) w := by go_simp
  unfold Instr.lookup
  simp only [Sem.run_bind, run_underlying Try.underlying57, Result.andThen_ok, MapKept.run_getObj_map hb, Sem.run_pure, checkK, findK]
  cases h : findE k es 0 with
  | none => simp [hz, Result.andThen_ok]
  | some r => simp
/-- A new key is put. -/
theorem putK (k : Key) (v : Int) (es : List Ent) (gm clock : Nat) (w : World) (hb : w.heap[gm]? = some (.map (mapE es) clock)) (hn : findE k es 0 = none) :
    (Instr.mapUpdate 57 (.map (some gm)) (keyV k) (.int .i64 v)).run Try.prog w = .ok () { w with heap := w.heap.setIfInBounds gm (.map (mapE (es ++ [(⟨k, v, clock⟩ : Ent)])) (clock + 1)) } := by
  have hb : w.heap[gm]? = some (.map (es.map entE).toArray clock) := hb
  have e : ((es.map entE).toArray.push { key := keyV k, val := .int .i64 v, born := clock }) = mapE (es ++ [(⟨k, v, clock⟩ : Ent)]) := by
    unfold mapE; rw [List.map_append]; simp [entE]
  unfold Instr.mapUpdate
  simp only [Sem.run_bind, run_underlying Try.underlying57, Result.andThen_ok, MapKept.run_getObj_map hb, checkK, findK, hn]
  rw [← e]
  exact MapKept.run_setObj_map _ hb
theorem sameK_iff (a b : Key) : sameK a b = true ↔ a = b := by
  unfold sameK
  rw [Bool.and_true, Bool.and_eq_true, beq_iff_eq, beq_iff_eq]
  constructor
  · rintro ⟨h1, h2⟩
    obtain ⟨a1, a2⟩ := a
    obtain ⟨b1, b2⟩ := b
    have : a1 = b1 := by
      have h : a1.toList = b1.toList := h1
      rw [ByteArray.toList_eq, ByteArray.toList_eq] at h
      exact ByteArray.ext (Array.ext' h)
    rw [this, show a2 = b2 from h2]
  · rintro rfl; exact ⟨rfl, rfl⟩
end Go.Proofs.Ythlajjcdmhgcmaa.Mk

namespace Go.Proofs.Ythlajjcdmhgcmaa.Gr
open Go.RowKit Go.PlainAid Go.Proofs.Ythlajjcdmhgcmaa.Base
open Go.Proofs.YthlajjcdmhgcmaaW.PrintWords (blk_cell blk_below blk_new blk_lt blk_put own_setCell)
set_option linter.unusedVariables false
theorem own_put {w : World} {base : Nat} {e : TypeId} {size n : Nat} {v : Value} {xs : List Value} (h : w.ownsRow base e size v n xs) {i g : Nat} (hi : i < n * size) (hv : v.ownBlock = some g) (u : Value) :
    (w.setCell ⟨g, i, none⟩ u).ownsRow base e size v n (xs.set i u) := by
  refine ⟨by rw [List.length_set]; exact h.1, ?_⟩
  rcases h.2 with ⟨rfl, rfl⟩ | ⟨g', cap, cur, rfl, hb, hh, h1, h2, h3, h4⟩
  · simp at hi
  · obtain rfl : g' = g := by simpa [Value.ownBlock] using hv
    refine .inr ⟨g', cap, cur.setIfInBounds i u, rfl, hb, blk_put hh i u rfl, h1, h2, by simpa using h3, ?_⟩
    rw [Array.toList_setIfInBounds, List.take_set, h4]
section
variable {P : Program} {ops : Array Oper} {rest : List Oper} {o : Oper} {a : Act} {Q : Exit → Act → World → Prop}
/-- append(v, x), x of the cells cs, which lies in the variadic's own block; where what comes of it lies. -/
theorem app_at {W : World} (base : Nat) (hgd : o.guard = none) (s x : Operand) (t e : TypeId) (z : Value) (size bytes : Nat)
    (ho : o.op = .call { callee := .builtin .append, args := #[s, x], argTypes := #[t, t] })
    (ht : P.underlying t = some (.slice e)) (hinfo : (P.info? e).map (fun i => (i.zero, i.size, i.bytes)) = some (some z, size, bytes)) (hz : z.cells.size = size) (hsz : 0 < size)
    {v : Value} {n : Nat} {xs : List Value} (HO : W.ownsRow base e size v n xs) (cs : Array Value) (hs : a.eval s = v) (hx : a.eval x = .slice (some ⟨W.heap.size, 0, none⟩) 1 1)
    (hc : cs.size = size) (h1 : ∀ u ∈ cs.toList, u.oneCell' = true) (hbase : base ≤ W.heap.size) (hn : n + 1 ≤ 140737488355328) (hl : (n + 1) * bytes ≤ 140737488355328)
    (h : ∀ v1 w1, w1.ownsRow base e size v1 (n + 1) (xs ++ cs.toList) → (W.alloc (.cells cs e)).grownBy w1 v.ownBlock → (v1.ownBlock = v.ownBlock ∨ v1.ownBlock = some (W.alloc (.cells cs e)).heap.size) → wpList P ops Q rest (a.put o.dst v1) w1) :
    wpList P ops Q (o :: rest) a (W.alloc (.cells cs e)) := by
  obtain ⟨i0, hi, hz0, hz1, hz2⟩ := info_parts hinfo
  refine wpList_append_own_at (W.alloc (.cells cs e)) hgd s x t ho base e i0 z size bytes ht hi hz0 hz1 hz2 hz hsz v n xs hs (HO.alloc _) ⟨W.heap.size, 0, none⟩ 1 1 cs.toList hx (by simp [hc])
    (World.news_of_block (cs := cs) (t := e) (fr := (0, 0)) (heap_alloc_new W _)) h1 (by simp only [maxLen]; omega) hl (by simp; omega) ?_
  intro v1 w1 hown hg _ hat
  exact h v1 w1 hown hg hat
end
structure SV where
  name : ByteArray
  type : Int
  ttl : Int
  dv : Value
  datas : List ByteArray
def cellsS (s : SV) : List Value := [.string s.name, .int .i64 s.type, .int .i64 s.ttl, s.dv]
/-- Sets that are the call's own: their row, each one's data, all apart. -/
structure Sets (W : World) (base : Nat) (v : Value) (ss : List SV) : Prop where
  own : W.ownsRow base 25 4 v ss.length (ss.flatMap cellsS)
  each : ∀ s ∈ ss, W.ownsRow base 9 1 s.dv s.datas.length (s.datas.map Value.string)
  apart : ∀ (i j : Nat) (s t : SV), ss[i]? = some s → ss[j]? = some t → i ≠ j → ∀ k, s.dv.ownBlock = some k → t.dv.ownBlock ≠ some k
theorem Sets.below {W W' : World} {base : Nat} {v : Value} {ss : List SV} (h : Sets W base v ss) (hb : Below W.heap.size W W') : Sets W' base v ss :=
  ⟨Sl.own_below h.own hb, fun s hs => Sl.own_below (h.each s hs) hb, h.apart⟩
/-- Two owned rows of unlike elements are two blocks. -/
theorem own_two {w : World} {b b' : Nat} {e e' : TypeId} {s s' n n' : Nat} {v v' : Value} {xs xs' : List Value} (h : w.ownsRow b e s v n xs) (h' : w.ownsRow b' e' s' v' n' xs') (hne : e ≠ e') (k : Nat) (hk : v.ownBlock = some k) : some k ≠ v'.ownBlock := by
  rcases h.2 with ⟨rfl, _⟩ | ⟨g, cap, cur, rfl, _, hh, _⟩
  · simp [Value.ownBlock] at hk
  · obtain rfl : g = k := by simpa [Value.ownBlock] using hk
    rcases h'.2 with ⟨rfl, _⟩ | ⟨g', cap', cur', rfl, _, hh', _⟩
    · simp [Value.ownBlock]
    · intro q
      obtain rfl : g = g' := by simpa [Value.ownBlock] using q
      rw [hh] at hh'
      injection hh' with q
      injection q with _ q
      exact hne q
theorem cells_at : ∀ (ss : List SV) (i j : Nat) (u : Value) (s s' : SV), ss[i]? = some s → j < 4 → cellsS s' = (cellsS s).set j u → (ss.flatMap cellsS).set (i * 4 + j) u = (ss.set i s').flatMap cellsS
  | [], i, j, u, s, s', h, _, _ => by simp at h
  | x :: ss, 0, j, u, s, s', h, hj, hc => by
    obtain rfl : x = s := by simpa using h
    rw [List.flatMap_cons, List.set_cons_zero, List.flatMap_cons, hc, Nat.zero_mul, Nat.zero_add, List.set_append_left _ _ (by simpa [cellsS] using hj)]
  | x :: ss, i + 1, j, u, s, s', h, hj, hc => by
    have hx : (cellsS x).length = 4 := rfl
    rw [List.flatMap_cons, List.set_cons_succ, List.flatMap_cons, List.set_append_right _ _ (by rw [hx]; omega), hx, show (i + 1) * 4 + j - 4 = i * 4 + j by omega, cells_at ss i j u s s' (by simpa using h) hj hc]
theorem set_at {ss : List SV} {i : Nat} {s' : SV} {j : Nat} {t : SV} (h : (ss.set i s')[j]? = some t) : (j = i ∧ t = s') ∨ (j ≠ i ∧ ss[j]? = some t) := by
  rw [List.getElem?_set] at h
  split at h
  · rename_i e
    split at h
    · exact .inl ⟨e.symm, (Option.some.inj h).symm⟩
    · cases h
  · rename_i e
    exact .inr ⟨fun q => e q.symm, h⟩
theorem mem_at {ss : List SV} {s : SV} (h : s ∈ ss) : ∃ i : Nat, ss[i]? = some s := List.mem_iff_getElem?.1 h
/-- A set's duration is written. -/
theorem Sets.ttl {W : World} {base : Nat} {v : Value} {ss : List SV} (h : Sets W base v ss) {i g : Nat} {s : SV} (hi : ss[i]? = some s) (hv : v.ownBlock = some g) (x : Int) :
    Sets (W.setCell ⟨g, i * 4 + 2, none⟩ (.int .i64 x)) base v (ss.set i { s with ttl := x }) := by
  obtain ⟨hl, hs⟩ := List.getElem?_eq_some_iff.1 hi
  have hm : s ∈ ss := hs ▸ List.getElem_mem hl
  refine ⟨?_, fun t ht => ?_, ?_⟩
  · have := own_put h.own (i := i * 4 + 2) (by omega) hv (.int .i64 x)
    rw [cells_at ss i 2 _ s { s with ttl := x } hi (by decide) rfl] at this
    rw [List.length_set]; exact this
  · have : ∃ t' ∈ ss, t'.dv = t.dv ∧ t'.datas = t.datas := by
      rcases List.mem_or_eq_of_mem_set ht with ht | rfl
      · exact ⟨t, ht, rfl, rfl⟩
      · exact ⟨s, hm, rfl, rfl⟩
    obtain ⟨t', h1, h2, h3⟩ := this
    rw [← h2, ← h3]
    exact own_setCell (h.each t' h1) (own_two h.own (h.each t' h1) (by decide) g hv) _
  · intro a b s1 s2 h1 h2 hab k hk
    rcases set_at h1 with ⟨rfl, rfl⟩ | ⟨n1, k1⟩
    · rcases set_at h2 with ⟨rfl, rfl⟩ | ⟨n2, k2⟩
      · exact absurd rfl hab
      · exact h.apart a b s s2 hi k2 hab k hk
    · rcases set_at h2 with ⟨rfl, rfl⟩ | ⟨n2, k2⟩
      · exact h.apart a b s1 s k1 hi hab k hk
      · exact h.apart a b s1 s2 k1 k2 hab k hk
/-- A set's data are another row: the elder one, grown, or one made anew. -/
theorem Sets.data {W w1 : World} {base : Nat} {v : Value} {ss : List SV} (h : Sets W base v ss) {i g : Nat} {s : SV} (hi : ss[i]? = some s) (hv : v.ownBlock = some g) {dv : Value} {ds : List ByteArray}
    (ho : w1.ownsRow base 9 1 dv ds.length (ds.map Value.string)) (hg : W.grownBy w1 s.dv.ownBlock) (hat : dv.ownBlock = s.dv.ownBlock ∨ dv.ownBlock = none ∨ ∃ b, dv.ownBlock = some b ∧ W.heap.size ≤ b) :
    Sets (w1.setCell ⟨g, i * 4 + 3, none⟩ dv) base v (ss.set i { s with dv := dv, datas := ds }) := by
  obtain ⟨hl, hs⟩ := List.getElem?_eq_some_iff.1 hi
  have hm : s ∈ ss := hs ▸ List.getElem_mem hl
  have hown : w1.ownsRow base 25 4 v ss.length (ss.flatMap cellsS) := h.own.kept hg (.inr (by rw [hv]; exact own_two h.own (h.each s hm) (by decide) g hv))
  have hlt : ∀ t ∈ ss, ∀ k, t.dv.ownBlock = some k → k < W.heap.size := by
    intro t ht k hk
    rcases (h.each t ht).2 with ⟨e, _⟩ | ⟨g', cap, cur, e, _, hh, _⟩
    · rw [e] at hk; simp [Value.ownBlock] at hk
    · rw [e] at hk
      obtain rfl : g' = k := by simpa [Value.ownBlock] using hk
      exact blk_lt hh
  refine ⟨?_, fun t ht => ?_, ?_⟩
  · have := own_put hown (i := i * 4 + 3) (by omega) hv dv
    rw [cells_at ss i 3 _ s { s with dv := dv, datas := ds } hi (by decide) rfl] at this
    rw [List.length_set]; exact this
  · obtain ⟨j, hj⟩ := mem_at ht
    rcases set_at hj with ⟨rfl, rfl⟩ | ⟨n1, hj⟩
    · exact own_setCell ho (own_two hown ho (by decide) g hv) _
    · have htm : t ∈ ss := List.mem_of_getElem? hj
      have hk : w1.ownsRow base 9 1 t.dv t.datas.length (t.datas.map Value.string) := (h.each t htm).kept hg (by
        cases e : t.dv.ownBlock with
        | none => exact .inl rfl
        | some k => exact .inr (fun q => h.apart j i t s hj hi n1 k e q.symm))
      exact own_setCell hk (own_two hown hk (by decide) g hv) _
  · intro a b s1 s2 h1 h2 hab k hk hk2
    rcases set_at h1 with ⟨rfl, rfl⟩ | ⟨n1, k1⟩
    · rcases set_at h2 with ⟨rfl, rfl⟩ | ⟨n2, k2⟩
      · exact absurd rfl hab
      · have hk : dv.ownBlock = some k := hk
        rcases hat with e | e | ⟨b', e, hb'⟩
        · exact h.apart a b s s2 hi k2 hab k (e ▸ hk) hk2
        · rw [e] at hk; cases hk
        · have := hlt s2 (List.mem_of_getElem? k2) k hk2
          rw [e] at hk
          have := Option.some.inj hk
          omega
    · rcases set_at h2 with ⟨rfl, rfl⟩ | ⟨n2, k2⟩
      · have hk2 : dv.ownBlock = some k := hk2
        rcases hat with e | e | ⟨b', e, hb'⟩
        · exact h.apart a b s1 s k1 hi hab k hk (e ▸ hk2)
        · rw [e] at hk2; cases hk2
        · have := hlt s1 (List.mem_of_getElem? k1) k hk
          rw [e] at hk2
          have := Option.some.inj hk2
          omega
      · exact h.apart a b s1 s2 k1 k2 hab k hk hk2
/-- A set without data is put behind. -/
theorem Sets.add {W w1 : World} {base : Nat} {v v1 : Value} {ss : List SV} (h : Sets W base v ss) {n : ByteArray} {t l : Int}
    (ho : w1.ownsRow base 25 4 v1 (ss.length + 1) (ss.flatMap cellsS ++ [.string n, .int .i64 t, .int .i64 l, .slice none 0 0])) (hg : W.grownBy w1 v.ownBlock) :
    Sets w1 base v1 (ss ++ [⟨n, t, l, .slice none 0 0, []⟩]) := by
  refine ⟨?_, fun s hs => ?_, ?_⟩
  · rw [List.length_append, List.flatMap_append]; exact ho
  · rcases List.mem_append.1 hs with hs | hs
    · refine (h.each s hs).kept hg ?_
      cases e : s.dv.ownBlock with
      | none => exact .inl rfl
      | some k => exact .inr (own_two (h.each s hs) h.own (by decide) k e)
    · obtain rfl := List.mem_singleton.1 hs
      exact ⟨rfl, .inl ⟨rfl, rfl⟩⟩
  · have none_ : ∀ (j : Nat) (s : SV) (k : Nat), (ss ++ [⟨n, t, l, .slice none 0 0, []⟩])[j]? = some s → s.dv.ownBlock = some k → ss[j]? = some s := by
      intro j s k hj hk
      by_cases hjl : j < ss.length
      · rwa [List.getElem?_append_left hjl] at hj
      · rw [List.getElem?_append_right (by omega)] at hj
        have : s ∈ [(⟨n, t, l, .slice none 0 0, []⟩ : SV)] := List.mem_of_getElem? hj
        obtain rfl := List.mem_singleton.1 this
        simp [Value.ownBlock] at hk
    intro a b s1 s2 h1 h2 hab k hk hk2
    exact h.apart a b s1 s2 (none_ a s1 k h1 hk) (none_ b s2 k h2 hk2) hab k hk hk2
theorem own_heap {W W' : World} {base : Nat} {e : TypeId} {size n : Nat} {v : Value} {xs : List Value} (h : W.ownsRow base e size v n xs) (hk : ∀ (k : Nat) (cs : Array Value) (t : TypeId) (fr : Nat × Nat), W.heap[k]? = some (Obj.cells cs t fr) → W'.heap[k]? = W.heap[k]?) : W'.ownsRow base e size v n xs := by
  refine ⟨h.1, ?_⟩
  rcases h.2 with h0 | ⟨g, cap, cur, h1, h2, hh, h3⟩
  · exact .inl h0
  · exact .inr ⟨g, cap, cur, h1, h2, (hk _ _ _ _ hh).trans hh, h3⟩
/-- Where only other things than cells have turned (the map, for one). -/
theorem Sets.heap {W W' : World} {base : Nat} {v : Value} {ss : List SV} (h : Sets W base v ss) (hk : ∀ (k : Nat) (cs : Array Value) (t : TypeId) (fr : Nat × Nat), W.heap[k]? = some (Obj.cells cs t fr) → W'.heap[k]? = W.heap[k]?) : Sets W' base v ss :=
  ⟨own_heap h.own hk, fun s hs => own_heap (h.each s hs) hk, h.apart⟩
theorem map_put {W : World} {gm clock : Nat} {es : Array MapEntry} (hm : W.heap[gm]? = some (.map es clock)) (o : Obj) :
    ∀ (k : Nat) (cs : Array Value) (t : TypeId) (fr : Nat × Nat), W.heap[k]? = some (Obj.cells cs t fr) → ({ W with heap := W.heap.setIfInBounds gm o } : World).heap[k]? = W.heap[k]? := by
  intro k cs t fr hk
  have hne : gm ≠ k := by rintro rfl; rw [hm] at hk; cases hk
  show (W.heap.setIfInBounds gm o)[k]? = _
  rw [Array.getElem?_setIfInBounds_ne hne]
theorem map_below {w W : World} {gm : Nat} (h : Below w.heap.size w W) (hg : w.heap.size ≤ gm) (o : Obj) : Below w.heap.size w ({ W with heap := W.heap.setIfInBounds gm o } : World) :=
  ⟨h.os, h.tape, h.output, by show w.heap.size ≤ (W.heap.setIfInBounds gm o).size; rw [Array.size_setIfInBounds]; exact h.size, fun i hi => by
    show (W.heap.setIfInBounds gm o)[i]? = _
    rw [Array.getElem?_setIfInBounds_ne (by omega)]; exact h.block i hi⟩
theorem Sets.start (W : World) (base : Nat) : Sets W base (.slice none 0 0) [] := ⟨⟨rfl, .inl ⟨rfl, rfl⟩⟩, fun s hs => by simp at hs, fun i j s t h => by simp at h⟩
theorem Sets.drew {W : World} {base : Nat} {v : Value} {ss : List SV} (h : Sets W base v ss) : Sets W.drew base v ss := h.heap (fun _ _ _ _ _ => rfl)
theorem blk_set_ne {w : World} {g : Nat} {o : Obj} {p : Addr} (h : w.heap[g]? = some o) (hne : g ≠ p.block) (v : Value) : (w.setCell p v).heap[g]? = some o := (Below.heap_setCell w p v g hne).trans h
/-- A row that is owned is no map. -/
theorem own_map {w : World} {b : Nat} {e : TypeId} {s n gm c : Nat} {v : Value} {xs : List Value} {es : Array MapEntry} (h : w.ownsRow b e s v n xs) (hm : w.heap[gm]? = some (.map es c)) : some gm ≠ v.ownBlock := by
  rcases h.2 with ⟨rfl, _⟩ | ⟨g, cap, cur, rfl, _, hh, _⟩
  · simp [Value.ownBlock]
  · intro q
    obtain rfl : gm = g := by simpa [Value.ownBlock] using q
    rw [hm] at hh; cases hh
/-- A row that is owned is no block of another kind of cells. -/
theorem own_other {w : World} {b k : Nat} {e t : TypeId} {s n : Nat} {v : Value} {xs : List Value} {cs : Array Value} {fr : Nat × Nat} (h : w.ownsRow b e s v n xs) (hk : w.heap[k]? = some (.cells cs t fr)) (hne : e ≠ t) : some k ≠ v.ownBlock := by
  rcases h.2 with ⟨rfl, _⟩ | ⟨g, cap, cur, rfl, _, hh, _⟩
  · simp [Value.ownBlock]
  · intro q
    obtain rfl : k = g := by simpa [Value.ownBlock] using q
    rw [hk] at hh
    injection hh with q
    injection q with _ q
    exact hne q.symm
theorem flat_at : ∀ (ss : List SV) (i j : Nat) (s : SV), ss[i]? = some s → j < 4 → (ss.flatMap cellsS)[i * 4 + j]? = (cellsS s)[j]?
  | [], i, j, s, h, _ => by simp at h
  | x :: ss, 0, j, s, h, hj => by
    obtain rfl : x = s := by simpa using h
    rw [List.flatMap_cons, Nat.zero_mul, Nat.zero_add, List.getElem?_append_left (by simpa [cellsS] using hj)]
  | x :: ss, i + 1, j, s, h, hj => by
    have hx : (cellsS x).length = 4 := rfl
    rw [List.flatMap_cons, List.getElem?_append_right (by rw [hx]; omega), hx, show (i + 1) * 4 + j - 4 = i * 4 + j by omega, flat_at ss i j s (by simpa using h) hj]
theorem Sets.cell {W : World} {base g n cap : Nat} {ss : List SV} (h : Sets W base (.slice (some ⟨g, 0, none⟩) n cap) ss) {i : Nat} {s : SV} (hi : ss[i]? = some s) {j : Nat} (hj : j < 4) : W.cell? ⟨g, i * 4 + j, none⟩ = (cellsS s)[j]? := by
  obtain ⟨hl, _⟩ := List.getElem?_eq_some_iff.1 hi
  have hn : n = ss.length := by
    rcases h.own.2 with ⟨e, _⟩ | ⟨_, _, _, e, _⟩
    · cases e
    · injection e
  have ho := h.own
  subst hn
  rw [ho.cellAt (i * 4 + j) (by omega), flat_at ss i j s hi hj]
theorem Sets.block {W : World} {base : Nat} {v : Value} {ss : List SV} (h : Sets W base v ss) {i : Nat} {s : SV} (hi : ss[i]? = some s) : ∃ g cap, v = .slice (some ⟨g, 0, none⟩) ss.length cap ∧ base ≤ g ∧ g < W.heap.size ∧ ∃ cs, W.heap[g]? = some (.cells cs 25 (0, 0)) := by
  obtain ⟨hl, _⟩ := List.getElem?_eq_some_iff.1 hi
  rcases h.own.2 with ⟨_, e⟩ | ⟨g, cap, cur, e, hb, hh, _⟩
  · omega
  · exact ⟨g, cap, e, hb, blk_lt hh, cur, hh⟩
theorem Sets.store {W w1 : World} {base g n cap : Nat} {ss : List SV} (h : Sets W base (.slice (some ⟨g, 0, none⟩) n cap) ss) {i : Nat} {s : SV} (hi : ss[i]? = some s) (hg : W.grownBy w1 s.dv.ownBlock) : w1.cell? ⟨g, i * 4 + 3, none⟩ = some s.dv ∧ w1.frozen? ⟨g, i * 4 + 3, none⟩ = false := by
  obtain ⟨hl, _⟩ := List.getElem?_eq_some_iff.1 hi
  have hn : n = ss.length := by
    rcases h.own.2 with ⟨e, _⟩ | ⟨_, _, _, e, _⟩
    · cases e
    · injection e
  subst hn
  have ho := h.own.kept hg (.inr (own_two h.own (h.each s (List.mem_of_getElem? hi)) (by decide) g rfl))
  exact ⟨by rw [ho.cellAt (i * 4 + 3) (by omega), flat_at ss i 3 s hi (by decide)]; rfl, ho.frozenAt _⟩
section
variable {ops : Array Oper} {o : Oper} {a : Act} {K : Act → World → Prop} {Q : Exit → Act → World → Prop}
theorem step_run {P : Program} {W w1 : World} (hw : Region.wanted o (yielded ops a.tmps) = true) (s x : Operand) (t : TypeId) (v u v1 : Value)
    (ho : o.op = .call { callee := .builtin .append, args := #[s, x], argTypes := #[t, t] }) (hs : a.eval s = v) (hx : a.eval x = u)
    (hr : (Builtin.append_ #[t, t] o.type #[v, u]).run P W = .ok v1 w1) (h : K (a.put o.dst v1) w1) :
    if Region.wanted o (yielded ops a.tmps) = true then Oper.wp P o a W K Q else K (a.put o.dst undef) W := by
  rw [if_pos hw]
  unfold Oper.wp execOp
  simp only [ho, resolve, invoke, builtin, Sem.run_bind, Sem.run_pure, Result.andThen_ok, List.map_toArray, List.map_cons, List.map_nil, hs, hx, hr]
  exact h
theorem step_ds {W : World} {base : Nat} {dv : Value} {ds : List ByteArray} {d : ByteArray} {g c : Nat} (hw : Region.wanted o (yielded ops a.tmps) = true) (s x : Operand)
    (ho : o.op = .call { callee := .builtin .append, args := #[s, x], argTypes := #[23, 23] }) (ht : o.type = 23) (hs : a.eval s = dv) (hx : a.eval x = .slice (some ⟨g, 0, none⟩) 1 c)
    (hown : W.ownsRow base 9 1 dv ds.length (ds.map Value.string)) (hg : W.heap[g]? = some (.cells #[.string d] 9 (0, 0))) (hl : ds.length ≤ 100000) (hB : base ≤ W.heap.size)
    (h : ∀ v1 w1 n1, Hid (n1 = (ds ++ [d]).length) → w1.ownsRow base 9 1 v1 n1 ((ds ++ [d]).map Value.string) → W.grownBy w1 dv.ownBlock → (v1.ownBlock = dv.ownBlock ∨ v1.ownBlock = some W.heap.size) → K (a.put o.dst v1) w1) :
    if Region.wanted o (yielded ops a.tmps) = true then Oper.wp Try.prog o a W K Q else K (a.put o.dst undef) W := by
  obtain ⟨i0, hi, hz0, hz1, hz2⟩ := info_parts (show ((Try.prog).info? 9).map (fun i => (i.zero, i.size, i.bytes)) = some (some (Value.string ⟨#[]⟩), 1, 16) by kernel_rfl)
  obtain ⟨v1, w1, e, ho1, hg1, _, hat⟩ := run_append_own_at (P := Try.prog) (w := W) base 23 23 9 i0 _ 1 16 Try.underlying23 hi hz0 hz1 hz2 rfl (by decide) dv ds.length (ds.map Value.string) hown ⟨g, 0, none⟩ 1 c [.string d] rfl (World.news_of_block hg) (by intro u hu; simp at hu; rcases hu with rfl; rfl) (by simp only [maxLen]; omega) (by omega) hB
  refine step_run hw s x _ _ _ v1 ho hs hx (by rw [ht]; exact e) (h v1 w1 _ (show Hid _ from rfl) ?_ hg1 hat)
  rw [List.map_append, List.length_append]
  exact ho1
end
end Go.Proofs.Ythlajjcdmhgcmaa.Gr

namespace Go.Proofs.Ythlajjcdmhgcmaa.Nm
open Go.RowKit Go.PlainAid Go.Proofs.Ythlajjcdmhgcmaa.Base Go.Proofs.Ythlajjcdmhgcmaa.Sl
set_option linter.unusedVariables false

/-- From a place on: do labels follow up to the last byte, which ends the name? -/
def nameAt (s : ByteArray) (i : Nat) : Bool :=
  if i < s.size then
    if bt s i = 0 then decide (i + 1 = s.size) else if 63 < bt s i then false else nameAt s (i + 1 + (bt s i).toNat)
  else false
termination_by s.size - i
/-- Where the labels begin, from a place on, and the last byte's place. -/
def placesAt (s : ByteArray) (i : Nat) : List Nat :=
  if i < s.size then
    i :: (if bt s i = 0 then [] else if 63 < bt s i then [] else placesAt s (i + 1 + (bt s i).toNat))
  else []
termination_by s.size - i
/-- Is it a name? -/
def nameB (s : ByteArray) : Bool := decide (s.size ≤ 255) && nameAt s 0
def places (s : ByteArray) : List Nat := placesAt s 0
theorem nameAt_end {s : ByteArray} {i : Nat} (h : i < s.size) (h0 : bt s i = 0) : nameAt s i = decide (i + 1 = s.size) := by
  rw [nameAt, if_pos h, if_pos h0]
theorem nameAt_bad {s : ByteArray} {i : Nat} (h : i < s.size) (h0 : 63 < bt s i) : nameAt s i = false := by
  rw [nameAt, if_pos h, if_neg (by omega), if_pos h0]
theorem nameAt_next {s : ByteArray} {i : Nat} (h : i < s.size) (h0 : bt s i ≠ 0) (h1 : bt s i ≤ 63) : nameAt s i = nameAt s (i + 1 + (bt s i).toNat) := by
  rw [nameAt, if_pos h, if_neg h0, if_neg (by omega)]
theorem nameAt_out {s : ByteArray} {i : Nat} (h : s.size ≤ i) : nameAt s i = false := by
  rw [nameAt, if_neg (by omega)]
theorem placesAt_end {s : ByteArray} {i : Nat} (h : i < s.size) (h0 : bt s i = 0) : placesAt s i = [i] := by
  rw [placesAt, if_pos h, if_pos h0]
theorem placesAt_next {s : ByteArray} {i : Nat} (h : i < s.size) (h0 : bt s i ≠ 0) (h1 : bt s i ≤ 63) : placesAt s i = i :: placesAt s (i + 1 + (bt s i).toNat) := by
  rw [placesAt, if_pos h, if_neg h0, if_neg (by omega)]
def pcells (xs : List Nat) : List Value := xs.map fun (k : Nat) => .int .i64 (k : Int)

theorem info_int : (Try.prog.info? 3).map (fun i => (i.zero, i.size, i.bytes)) = some (some (.int .i64 0), 1, 8) := by kernel_rfl

/-- Places: whether it is a name; the places, if it is. -/
def PlacesPost (s : ByteArray) (w : World) (e : Ending) (w' : World) : Prop :=
  ∃ v, e = .returned (.tuple #[v, .bool (nameB s)]) ∧ Below w.heap.size w w' ∧ (nameB s = true → w'.ownsRow w.heap.size 3 1 v (places s).length (pcells (places s)))
theorem placesLong (s : ByteArray) (w : World) (h : 255 < s.size) : Calls Try.prog 39 #[.string s] w (PlacesPost s w) := by
  have q : decide ((255 : Int) < s.size) = true := by simp; omega
  have hn : nameB s = false := by unfold nameB; simp; omega
  have HN := Lib.hid hn
  clear hn
  go_enter Try.func39, Try.ntmps39
  go_wp2
  go_step3
  go_wp2
  rw [Exit.noGoto_ret]
  go_ret2
  exact ⟨_, by rw [HN.out]; rfl, Below.refl _ _, fun h => by rw [HN.out] at h; cases h⟩
/-- What holds at each round's head. -/
structure Rnd (s : ByteArray) (w : World) (i : Nat) (v : Value) (wr : World) : Prop where
  nm : nameAt s i = nameAt s 0
  own : ∃ xs : List Nat, xs ++ placesAt s i = placesAt s 0 ∧ xs.length ≤ i ∧ wr.ownsRow w.heap.size 3 1 v xs.length (pcells xs)
  bel : Below w.heap.size w wr
theorem pcells_snoc (xs : List Nat) (i : Nat) : pcells xs ++ [.int .i64 (i : Int)] = pcells (xs ++ [i]) := by simp [pcells]
theorem Rnd.next {s : ByteArray} {w : World} {i : Nat} {xs : List Nat} {v1 : Value} {w1 : World} (hnm : nameAt s i = nameAt s 0) (hlt : i < s.size) (h0 : bt s i ≠ 0) (h1 : bt s i ≤ 63) (hx : xs ++ placesAt s i = placesAt s 0) (hl : xs.length ≤ i)
    (hown : w1.ownsRow w.heap.size 3 1 v1 (xs.length + 1) (pcells xs ++ [.int .i64 (i : Int)])) (hb : Below w.heap.size w w1) : Rnd s w (i + 1 + (bt s i).toNat) v1 w1 where
  nm := by rw [← nameAt_next hlt h0 h1]; exact hnm
  own := ⟨xs ++ [i], by rw [← hx, placesAt_next hlt h0 h1]; simp, by simp; omega, by rw [← pcells_snoc]; simpa using hown⟩
  bel := hb
theorem placesEnd {s : ByteArray} {w : World} {i : Nat} {xs : List Nat} {v1 : Value} {w1 : World} {b : Bool} (hs : s.size ≤ 255) (hnm : nameAt s i = nameAt s 0) (hlt : i < s.size) (h0 : bt s i = 0) (hx : xs ++ placesAt s i = placesAt s 0)
    (hown : w1.ownsRow w.heap.size 3 1 v1 (xs.length + 1) (pcells xs ++ [.int .i64 (i : Int)])) (hb : Below w.heap.size w w1) (hbb : b = decide (i + 1 = s.size)) : PlacesPost s w (.returned (.tuple #[v1, .bool b])) w1 := by
  have e1 : nameB s = b := by unfold nameB; rw [← hnm, nameAt_end hlt h0, hbb]; simp [hs]
  refine ⟨v1, by rw [e1], hb, fun _ => ?_⟩
  unfold places
  rw [← hx, placesAt_end hlt h0, ← pcells_snoc]
  simpa using hown
theorem placesBad {s : ByteArray} {w : World} {i : Nat} {v1 : Value} {w1 : World} (hnm : nameAt s i = nameAt s 0) (hf : nameAt s i = false) (hb : Below w.heap.size w w1) : PlacesPost s w (.returned (.tuple #[v1, .bool false])) w1 := by
  have e1 : nameB s = false := by unfold nameB; rw [← hnm, hf]; simp
  exact ⟨v1, by rw [e1], hb, fun h => by rw [e1] at h; cases h⟩
set_option maxHeartbeats 2000000 in
theorem placesShort (s : ByteArray) (w : World) (h : s.size ≤ 255) : Calls Try.prog 39 #[.string s] w (PlacesPost s w) := by
  have q : decide ((255 : Int) < s.size) = false := by simp; omega
  go_enter Try.func39, Try.ntmps39
  go_wp2
  go_step3
  go_wp2
  go_step3
  go_wp2
  go_loopg [4, 5, 6] (s.size + 65) (fun k v4 v5 v6 wr => ∃ i : Nat, v5 = .int .i64 i ∧ i + k ≤ s.size + 65 ∧ s.size + 65 ≤ i + k ∧ i ≤ s.size + 64 ∧ Rnd s w i v4 wr)
  case atStart => exact ⟨0, rfl, by omega, by omega, by omega, rfl, ⟨[], rfl, Nat.le_refl _, World.ownsRow_nil _ _ _ _⟩, Below.refl _ _⟩
  case round =>
    obtain ⟨i, rfl, hk1, hk2, hk3, hR⟩ := hrel
    have hnm := Lib.hid hR.nm
    have hbel := hR.bel
    by_cases hlt : i < s.size
    · have q0 : decide ((i : Int) < s.size) = true := by simp; omega
      have qs : decide ((0 : Int) < s.size) = true := by simp; omega
      have hb := get_bt s
      have wb : wrap64 (bt s i) = bt s i := w64 (by have := bt_nonneg s i; omega) (by have := bt_le s i; omega)
      obtain ⟨xs, hxs, hxl, hown⟩ := hR.own
      have HX := Lib.hid hxs
      clear hxs
      have hsz := hbel.size
      by_cases hz : bt s i = 0
      · have q1 : (bt s i == 0) = true := by simp [hz]
        have HZ := Lib.hid hz
        clear hz
        go_wp2_with (at_builtin; refine append_row (w0 := w) w.heap.size rfl _ _ 49 3 (.int .i64 0) 1 8 rfl Try.underlying49 info_int rfl (by decide) hown #[.int .i64 i] rfl rfl rfl ?h1 hbel hsz ?hn ?hl ?_)
        case h1 => rfl
        case hn => omega
        case hl => omega
        intro v1 w1 hown1 hbel1
        go_wp2
        rw [Exit.noGoto_ret]
        go_ret2
        exact placesEnd h hnm.out hlt HZ.out HX.out hown1 hbel1 (by rw [Bool.eq_iff_iff]; simp; omega)
      · have q1 : (bt s i == 0) = false := by simp [hz]
        have HZ := Lib.hid hz
        clear hz
        by_cases h63 : bt s i ≤ 63
        · have q2 : decide (63 < bt s i) = false := by simp; omega
          have H63 := Lib.hid h63
          clear h63
          have ws : wrap64 ((i : Int) + wrap64 (1 + bt s i)) = ((i + 1 + (bt s i).toNat : Nat) : Int) := by
            have := bt_nonneg s i; have := bt_le s i
            rw [w64 (x := 1 + bt s i) (by omega) (by omega), w64 (by omega) (by omega)]; omega
          go_wp2_with (at_builtin; refine append_row (w0 := w) w.heap.size rfl _ _ 49 3 (.int .i64 0) 1 8 rfl Try.underlying49 info_int rfl (by decide) hown #[.int .i64 i] rfl rfl rfl ?h1 hbel hsz ?hn ?hl ?_)
          case h1 => rfl
          case hn => omega
          case hl => omega
          intro v1 w1 hown1 hbel1
          go_wp2
          go_roundg (gk - 1 - (bt s i).toNat)
          case measure => omega
          case rel =>
            have := H63.out; have := bt_nonneg s i
            exact ⟨i + 1 + (bt s i).toNat, congrArg _ ws, by omega, by omega, by omega, Rnd.next hnm.out hlt HZ.out H63.out HX.out hxl hown1 hbel1⟩
        · have q2 : decide (63 < bt s i) = true := by simp; omega
          have H63 := Lib.hid h63
          clear h63
          go_wp2_with (at_builtin; refine append_row (w0 := w) w.heap.size rfl _ _ 49 3 (.int .i64 0) 1 8 rfl Try.underlying49 info_int rfl (by decide) hown #[.int .i64 i] rfl rfl rfl ?h1 hbel hsz ?hn ?hl ?_)
          case h1 => rfl
          case hn => omega
          case hl => omega
          intro v1 w1 hown1 hbel1
          go_wp2
          rw [Exit.noGoto_ret]
          go_ret2
          exact placesBad hnm.out (nameAt_bad hlt (by have := H63.out; omega)) hbel1
    · have q0 : decide ((i : Int) < s.size) = false := by simp; omega
      by_cases hs0 : s.size = 0
      · have qs : decide (0 < s.size) = false := decide_eq_false (by omega)
        have HS := Lib.hid hs0
        clear hs0
        go_wp2
        rw [Exit.noGoto_ret]
        go_ret2
        exact placesBad hnm.out (nameAt_out (by omega)) hbel
      · have qs : decide (0 < s.size) = true := decide_eq_true (by omega)
        have qe : ((i : Int) == (s.size : Int) - 1) = false := by simp; omega
        have HS := Lib.hid hs0
        clear hs0
        go_wp2
        rw [Exit.noGoto_ret]
        go_ret2
        exact placesBad hnm.out (nameAt_out (by omega)) hbel
end Go.Proofs.Ythlajjcdmhgcmaa.Nm

namespace Go.Proofs.Ythlajjcdmhgcmaa.Nm
open Go.RowKit Go.PlainAid Go.Proofs.Ythlajjcdmhgcmaa.Base Go.Proofs.Ythlajjcdmhgcmaa.Sl
set_option linter.unusedVariables false

theorem places_any (s : ByteArray) (w : World) : Calls Try.prog 39 #[.string s] w (PlacesPost s w) := by
  by_cases h : s.size ≤ 255
  · exact placesShort s w h
  · exact placesLong s w (by omega)
set_option maxHeartbeats 400000 in
theorem may (s : ByteArray) (w : World) : Calls Try.prog 25 #[.string s] w fun e w' => e = .returned (.bool (nameB s)) ∧ Below w.heap.size w w' := by
  go_enter Try.func25, Try.ntmps25
  go_wp2_with fail
  refine (places_any s _).mono ?_
  rintro e w' ⟨v, rfl, hb, _⟩
  go_wp2
  go_ret
  exact ⟨rfl, hb⟩
theorem placesLongBad {s : ByteArray} {w : World} {v1 : Value} {w1 : World} (h : ¬ s.size ≤ 255) (hb : Below w.heap.size w w1) : PlacesPost s w (.returned (.tuple #[v1, .bool false])) w1 := by
  have e1 : nameB s = false := by unfold nameB; simp; omega
  exact ⟨v1, by rw [e1], hb, fun h => by rw [e1] at h; cases h⟩
set_option maxHeartbeats 1000000 in
theorem rplacesLong (s : ByteArray) (w : World) (h : ¬ s.size ≤ 255) : Calls Try.prog 38 #[.string s] w (PlacesPost s w) := by
  have q : decide ((s.size : Int) ≤ 255) = false := by simp; omega
  have q0 : decide (0 < s.size) = true := decide_eq_true (by omega)
  have H := Lib.hid h
  clear h
  go_enter Try.func38, Try.ntmps38
  go_wp2
  refine wp_loop_rounds 1 ?_
  rw [rounds_succ]
  go_wp2
  go_ret2
  exact placesLongBad H.out (Below.refl _ _)
set_option maxHeartbeats 2000000 in
theorem rplacesShort (s : ByteArray) (w : World) (h : s.size ≤ 255) : Calls Try.prog 38 #[.string s] w (PlacesPost s w) := by
  have q : decide ((s.size : Int) ≤ 255) = true := by simp; omega
  go_enter Try.func38, Try.ntmps38
  go_wp2
  go_loopg [4, 5, 6] (s.size + 65) (fun k v4 v5 v6 wr => ∃ i : Nat, v5 = .int .i64 i ∧ i + k ≤ s.size + 65 ∧ s.size + 65 ≤ i + k ∧ i ≤ s.size + 64 ∧ Rnd s w i v4 wr)
  case atStart => exact ⟨0, rfl, by omega, by omega, by omega, rfl, ⟨[], rfl, Nat.le_refl _, World.ownsRow_nil _ _ _ _⟩, Below.refl _ _⟩
  case round =>
    obtain ⟨i, rfl, hk1, hk2, hk3, hR⟩ := hrel
    have hnm := Lib.hid hR.nm
    have hbel := hR.bel
    by_cases hlt : i < s.size
    · have q0 : decide ((i : Int) < s.size) = true := by simp; omega
      have hb := get_bt s
      have wb : wrap64 (bt s i) = bt s i := w64 (by have := bt_nonneg s i; omega) (by have := bt_le s i; omega)
      obtain ⟨xs, hxs, hxl, hown⟩ := hR.own
      have HX := Lib.hid hxs
      clear hxs
      have hsz := hbel.size
      by_cases hz : bt s i = 0
      · have q1 : (bt s i == 0) = true := by simp [hz]
        have HZ := Lib.hid hz
        clear hz
        go_wp2_with (at_builtin; refine append_row (w0 := w) w.heap.size rfl _ _ 49 3 (.int .i64 0) 1 8 rfl Try.underlying49 info_int rfl (by decide) hown #[.int .i64 i] rfl rfl rfl ?h1 hbel hsz ?hn ?hl ?_)
        case h1 => rfl
        case hn => omega
        case hl => omega
        intro v1 w1 hown1 hbel1
        go_wp2
        go_ret2
        exact placesEnd h hnm.out hlt HZ.out HX.out hown1 hbel1 (by rw [Bool.eq_iff_iff]; simp; omega)
      · have q1 : (bt s i == 0) = false := by simp [hz]
        have HZ := Lib.hid hz
        clear hz
        by_cases h63 : bt s i ≤ 63
        · have q2 : decide (63 < bt s i) = false := by simp; omega
          have H63 := Lib.hid h63
          clear h63
          have ws : wrap64 ((i : Int) + 1 + bt s i) = ((i + 1 + (bt s i).toNat : Nat) : Int) := by
            have := bt_nonneg s i; have := bt_le s i
            rw [w64 (by omega) (by omega)]; omega
          go_wp2_with (at_builtin; refine append_row (w0 := w) w.heap.size rfl _ _ 49 3 (.int .i64 0) 1 8 rfl Try.underlying49 info_int rfl (by decide) hown #[.int .i64 i] rfl rfl rfl ?h1 hbel hsz ?hn ?hl ?_)
          case h1 => rfl
          case hn => omega
          case hl => omega
          intro v1 w1 hown1 hbel1
          go_wp2
          go_roundg (gk - 1 - (bt s i).toNat)
          case measure => omega
          case rel =>
            have := H63.out; have := bt_nonneg s i
            exact ⟨i + 1 + (bt s i).toNat, congrArg _ ws, by omega, by omega, by omega, Rnd.next hnm.out hlt HZ.out H63.out HX.out hxl hown1 hbel1⟩
        · have q2 : decide (63 < bt s i) = true := by simp; omega
          have H63 := Lib.hid h63
          clear h63
          go_wp2_with (at_builtin; refine append_row (w0 := w) w.heap.size rfl _ _ 49 3 (.int .i64 0) 1 8 rfl Try.underlying49 info_int rfl (by decide) hown #[.int .i64 i] rfl rfl rfl ?h1 hbel hsz ?hn ?hl ?_)
          case h1 => rfl
          case hn => omega
          case hl => omega
          intro v1 w1 hown1 hbel1
          go_wp2
          go_ret2
          exact placesBad hnm.out (nameAt_bad hlt (by have := H63.out; omega)) hbel1
    · have q0 : decide ((i : Int) < s.size) = false := by simp; omega
      go_wp2
      go_ret2
      exact placesBad hnm.out (nameAt_out (by omega)) hbel
theorem rplaces_any (s : ByteArray) (w : World) : Calls Try.prog 38 #[.string s] w (PlacesPost s w) := by
  by_cases h : s.size ≤ 255
  · exact rplacesShort s w h
  · exact rplacesLong s w h
/-! ### Where the name ends that begins at a place -/
def zeroAt (s : ByteArray) (i : Nat) : Option Nat :=
  if i < s.size then
    if bt s i = 0 then some i else zeroAt s (i + 1 + (bt s i).toNat)
  else none
termination_by s.size - i
theorem zeroAt_end {s : ByteArray} {i : Nat} (h : i < s.size) (h0 : bt s i = 0) : zeroAt s i = some i := by rw [zeroAt, if_pos h, if_pos h0]
theorem zeroAt_next {s : ByteArray} {i : Nat} (h : i < s.size) (h0 : bt s i ≠ 0) : zeroAt s i = zeroAt s (i + 1 + (bt s i).toNat) := by rw [zeroAt, if_pos h, if_neg h0]
theorem zeroAt_out {s : ByteArray} {i : Nat} (h : s.size ≤ i) : zeroAt s i = none := by rw [zeroAt, if_neg (by omega)]
theorem zeroAt_ge {s : ByteArray} : ∀ (d i p : Nat), s.size - i ≤ d → zeroAt s i = some p → i ≤ p ∧ p < s.size
  | 0, i, p, hd, h => by rw [zeroAt_out (by omega)] at h; cases h
  | d + 1, i, p, hd, h => by
    by_cases hlt : i < s.size
    · by_cases h0 : bt s i = 0
      · rw [zeroAt_end hlt h0] at h
        cases h
        exact ⟨Nat.le_refl _, hlt⟩
      · rw [zeroAt_next hlt h0] at h
        have := zeroAt_ge d _ p (by omega) h
        omega
    · rw [zeroAt_out (by omega)] at h; cases h
/-- The place behind the name that begins at a place; -1: none. -/
def endN (s : ByteArray) (a : Nat) : Int := match zeroAt s a with
  | some p => if nameB (s.extract a (p + 1)) then (p + 1 : Int) else -1
  | none => -1
theorem endN_of {s : ByteArray} {a i : Nat} (hz : zeroAt s i = zeroAt s a) (h : i < s.size) (h0 : bt s i = 0) : endN s a = if nameB (s.extract a (i + 1)) then (i + 1 : Int) else -1 := by
  unfold endN; rw [← hz, zeroAt_end h h0]
theorem endN_out {s : ByteArray} {a i : Nat} (hz : zeroAt s i = zeroAt s a) (h : s.size ≤ i) : endN s a = -1 := by
  unfold endN; rw [← hz, zeroAt_out h]
theorem nameB_long {s : ByteArray} (h : 255 < s.size) : nameB s = false := by unfold nameB; simp; omega
theorem endN_far {s : ByteArray} {i : Nat} (hz : zeroAt s i = zeroAt s 0) (h : 255 ≤ i) : endN s 0 = -1 := by
  unfold endN
  rw [← hz]
  cases hp : zeroAt s i with
  | none => rfl
  | some p =>
    have := zeroAt_ge _ i p (Nat.le_refl _) hp
    simp only
    rw [nameB_long (by rw [ByteArray.size_extract]; omega)]
    rfl
end Go.Proofs.Ythlajjcdmhgcmaa.Nm

namespace Go.Proofs.Ythlajjcdmhgcmaa.Rd
open Go.RowKit Go.PlainAid Go.Proofs.Ythlajjcdmhgcmaa.Base Go.Proofs.Ythlajjcdmhgcmaa.Sl Go.Proofs.Ythlajjcdmhgcmaa.Nm
set_option linter.unusedVariables false

theorem zeroAt_next1 {s : ByteArray} {i : Nat} {z : Option Nat} (hz : zeroAt s i = z) (h : i < s.size) (h0 : bt s i ≠ 0) : zeroAt s (i + 1 + (bt s i).toNat) = z := by rw [← zeroAt_next h h0]; exact hz
theorem step1 {s : ByteArray} {i : Nat} (hs : s.size ≤ 9223372036854775000) (h : i < s.size) : wrap64 ((i : Int) + wrap64 (1 + bt s i)) = ((i + 1 + (bt s i).toNat : Nat) : Int) := by
  have := bt_nonneg s i; have := bt_le s i
  rw [w64 (x := 1 + bt s i) (by omega) (by omega), w64 (by omega) (by omega)]; omega
set_option maxHeartbeats 1000000 in
theorem ends (s : ByteArray) (w : World) (hs : s.size ≤ 9223372036854775000) : Calls Try.prog 51 #[.string s] w fun e w' => e = .returned (.int .i64 (endN s 0)) ∧ Below w.heap.size w w' := by
  go_enter Try.func51, Try.ntmps51
  go_wp2
  go_loopg [3] (s.size + 256) (fun k v3 wr => ∃ i : Nat, v3 = .int .i64 i ∧ i + k ≤ s.size + 256 ∧ s.size + 256 ≤ i + k ∧ i ≤ s.size + 255 ∧ zeroAt s i = zeroAt s 0 ∧ w = wr)
  case atStart => exact ⟨0, rfl, by omega, by omega, by omega, rfl, rfl⟩
  case round =>
    obtain ⟨i, rfl, hk1, hk2, hk3, hZ, rfl⟩ := hrel
    have HZ := Lib.hid hZ
    clear hZ
    by_cases hlt : i < s.size
    · have q0 : decide ((i : Int) < s.size) = true := by simp; omega
      by_cases h255 : i < 255
      · have q2 : decide ((i : Int) < 255) = true := by simp; omega
        have hb := get_bt s
        have wb : wrap64 (bt s i) = bt s i := w64 (by have := bt_nonneg s i; omega) (by have := bt_le s i; omega)
        have w1 : wrap64 ((i : Int) + 1) = ((i + 1 : Nat) : Int) := by rw [w64 (by omega) (by omega)]; omega
        by_cases hz : bt s i = 0
        · have q1 : (bt s i == 0) = true := by simp [hz]
          have H0 := Lib.hid hz
          clear hz
          cases hm : nameB (s.extract 0 (i + 1)) with
          | true =>
            go_wp2_with fail
            refine (may _ _).mono ?_
            rintro e w2 ⟨rfl, hb2⟩
            rw [hm]
            go_wp2
            go_ret
            exact ⟨by rw [endN_of HZ.out hlt H0.out, hm]; simp, hb2⟩
          | false =>
            go_wp2_with fail
            refine (may _ _).mono ?_
            rintro e w2 ⟨rfl, hb2⟩
            rw [hm]
            go_wp2
            go_ret
            exact ⟨by rw [endN_of HZ.out hlt H0.out, hm]; simp, hb2⟩
        · have q1 : (bt s i == 0) = false := by simp [hz]
          have H0 := Lib.hid hz
          clear hz
          have ws := step1 hs hlt
          go_wp2
          go_roundg (gk - 1 - (bt s i).toNat)
          case measure => omega
          case rel =>
            have := bt_nonneg s i; have := bt_le s i
            exact ⟨i + 1 + (bt s i).toNat, congrArg _ ws, by omega, by omega, by omega, zeroAt_next1 HZ.out hlt H0.out, rfl⟩
      · have q2 : decide ((i : Int) < 255) = false := by simp; omega
        go_wp2
        go_ret
        exact ⟨by rw [endN_far HZ.out (by omega)]; rfl, Below.refl _ _⟩
    · have q0 : decide ((i : Int) < s.size) = false := by simp; omega
      go_wp2
      go_ret
      exact ⟨by rw [endN_out HZ.out (by omega)]; rfl, Below.refl _ _⟩
/-- From a place on: do texts follow up to the end? -/
def textsAt (s : ByteArray) (i : Nat) : Bool :=
  if i < s.size then textsAt s (i + 1 + (bt s i).toNat) else decide (i = s.size)
termination_by s.size - i
theorem textsAt_next {s : ByteArray} {i : Nat} (h : i < s.size) : textsAt s i = textsAt s (i + 1 + (bt s i).toNat) := by rw [textsAt, if_pos h]
theorem textsAt_next1 {s : ByteArray} {i : Nat} {z : Bool} (hz : textsAt s i = z) (h : i < s.size) : textsAt s (i + 1 + (bt s i).toNat) = z := by rw [← textsAt_next h]; exact hz
theorem textsAt_end {s : ByteArray} {i : Nat} (h : ¬ i < s.size) : textsAt s i = decide (i = s.size) := by rw [textsAt, if_neg h]
theorem isEmpty_no {s : ByteArray} (h : ¬ s.size = 0) : s.toList.isEmpty = false := by
  rw [ByteArray.toList_eq]
  cases e : s.data.toList with
  | nil => exact absurd (by rw [← len_data, e]; rfl) h
  | cons a b => rfl
theorem isEmpty_yes {s : ByteArray} (h : s.size = 0) : s.toList.isEmpty = true := by
  rw [ByteArray.toList_eq]
  cases e : s.data.toList with
  | nil => rfl
  | cons a b => exact absurd h (by rw [← len_data, e]; simp)
/-- One or more texts? -/
def textsB (s : ByteArray) : Bool := decide (0 < s.size) && textsAt s 0

set_option maxHeartbeats 1000000 in
theorem texts (s : ByteArray) (w : World) (hs : s.size ≤ 9223372036854775000) : Calls Try.prog 41 #[.string s] w fun e w' => e = .returned (.bool (textsB s)) ∧ w = w' := by
  go_enter Try.func41, Try.ntmps41
  go_wp2
  go_loopg [3] (s.size + 256) (fun k v3 wr => ∃ i : Nat, v3 = .int .i64 i ∧ i + k ≤ s.size + 256 ∧ s.size + 256 ≤ i + k ∧ i ≤ s.size + 255 ∧ textsAt s i = textsAt s 0 ∧ w = wr)
  case atStart => exact ⟨0, rfl, by omega, by omega, by omega, rfl, rfl⟩
  case round =>
    obtain ⟨i, rfl, hk1, hk2, hk3, hZ, rfl⟩ := hrel
    have HZ := Lib.hid hZ
    clear hZ
    by_cases hlt : i < s.size
    · have q0 : decide ((i : Int) < s.size) = true := by simp; omega
      have hb := get_bt s
      have wb : wrap64 (bt s i) = bt s i := w64 (by have := bt_nonneg s i; omega) (by have := bt_le s i; omega)
      have ws := step1 hs hlt
      go_wp2
      go_roundg (gk - 1 - (bt s i).toNat)
      case measure => omega
      case rel =>
        have := bt_nonneg s i; have := bt_le s i
        exact ⟨i + 1 + (bt s i).toNat, congrArg _ ws, by omega, by omega, by omega, textsAt_next1 HZ.out hlt, rfl⟩
    · have q0 : decide ((i : Int) < s.size) = false := by simp; omega
      have e1 : textsB s = (decide (0 < s.size) && decide (i = s.size)) := by unfold textsB; rw [← HZ.out, textsAt_end hlt]
      have E := Lib.hid e1
      clear e1
      by_cases h0 : s.size = 0
      · have q1 : s.toList.isEmpty = true := isEmpty_yes h0
        have e2 : textsB s = false := by rw [E.out]; simp; omega
        go_wp2
        go_ret
        exact ⟨by rw [e2]; rfl, rfl⟩
      · have q1 : s.toList.isEmpty = false := isEmpty_no h0
        by_cases hi : i = s.size
        · have q3 : ((i : Int) == s.size) = true := by simp; omega
          have e2 : textsB s = true := by rw [E.out]; simp; omega
          go_wp2
          go_ret
          exact ⟨by rw [e2]; rfl, rfl⟩
        · have q3 : ((i : Int) == s.size) = false := by simp; omega
          have e2 : textsB s = false := by rw [E.out]; simp; omega
          go_wp2
          go_ret
          exact ⟨by rw [e2]; rfl, rfl⟩

end Go.Proofs.Ythlajjcdmhgcmaa.Rd

namespace Go.Proofs.Ythlajjcdmhgcmaa.Rd
open Go.RowKit Go.PlainAid Go.Proofs.Ythlajjcdmhgcmaa.Base Go.Proofs.Ythlajjcdmhgcmaa.Sl Go.Proofs.Ythlajjcdmhgcmaa.Nm
set_option linter.unusedVariables false

theorem endN_bd {s : ByteArray} {a : Nat} (h : 0 ≤ endN s a) : (a : Int) < endN s a ∧ endN s a ≤ s.size := by
  unfold endN at h ⊢
  cases hz : zeroAt s a with
  | none => rw [hz] at h; simp at h
  | some p =>
    have := zeroAt_ge _ a p (Nat.le_refl _) hz
    rw [hz] at h
    simp only at h ⊢
    split
    · omega
    · rename_i hn; rw [if_neg hn] at h; omega
theorem endN_neg {s : ByteArray} {a : Nat} (h : endN s a < 0) : endN s a = -1 := by
  unfold endN at h ⊢
  cases hz : zeroAt s a with
  | none => rfl
  | some p =>
    rw [hz] at h
    simp only at h ⊢
    split
    · rename_i hn; rw [if_pos hn] at h; omega
    · rfl
theorem bt_extract (s : ByteArray) (a i : Nat) : bt (s.extract a s.size) i = bt s (a + i) := by
  rw [bt_data, bt_data, ByteArray.data_extract, Array.toList_extract]
  congr 1
  congr 1
  simp only [List.getD_eq_getElem?_getD, List.extract_eq_take_drop, List.getElem?_take, List.getElem?_drop]
  by_cases h : i < s.size - a
  · rw [if_pos h]
  · rw [if_neg h, List.getElem?_eq_none (by rw [len_data]; omega)]
theorem zeroAt_shift (s : ByteArray) (a : Nat) (ha : a ≤ s.size) : ∀ (d i : Nat), s.size - (a + i) ≤ d → zeroAt (s.extract a s.size) i = (zeroAt s (a + i)).map (· - a)
  | 0, i, hd => by rw [zeroAt_out (by rw [ByteArray.size_extract]; omega), zeroAt_out (by omega)]; rfl
  | d + 1, i, hd => by
    by_cases hlt : a + i < s.size
    · by_cases h0 : bt s (a + i) = 0
      · rw [zeroAt_end (by rw [ByteArray.size_extract]; omega) (by rw [bt_extract]; exact h0), zeroAt_end hlt h0]
        simp
      · rw [zeroAt_next (by rw [ByteArray.size_extract]; omega) (by rw [bt_extract]; exact h0), zeroAt_next hlt h0, bt_extract, zeroAt_shift s a ha d _ (by omega)]
        rw [show a + (i + 1 + (bt s (a + i)).toNat) = a + i + 1 + (bt s (a + i)).toNat by omega]
    · rw [zeroAt_out (by rw [ByteArray.size_extract]; omega), zeroAt_out (by omega)]; rfl
theorem endN_shift (s : ByteArray) (a : Nat) (ha : a ≤ s.size) : endN (s.extract a s.size) 0 = if endN s a < 0 then -1 else endN s a - a := by
  have e := zeroAt_shift s a ha _ 0 (Nat.le_refl _)
  unfold endN
  rw [e]
  simp only [Nat.add_zero]
  cases hz : zeroAt s a with
  | none => rfl
  | some p =>
    have := zeroAt_ge _ a p (Nat.le_refl _) hz
    simp only [Option.map_some]
    have ex : (s.extract a s.size).extract 0 (p - a + 1) = s.extract a (p + 1) := by
      rw [ByteArray.extract_extract]; congr 1 <;> omega
    rw [ex]
    split
    · rw [if_neg (by omega)]; omega
    · rfl
/-- Two names, and five numbers? -/
def soaB (s : ByteArray) : Bool := decide (0 ≤ endN s 0) && (decide (0 ≤ endN s (endN s 0).toNat) && decide ((s.size : Int) = endN s (endN s 0).toNat + 20))
theorem slice_a (s : ByteArray) (a : Nat) (h : a ≤ s.size) (w : World) : (Instr.slice 9 (.string s) (some (.int .i64 (a : Int))) none none).run Try.prog w = .ok (.string (s.extract a s.size)) w := by
  have hj : 0 ≤ (a : Int) ∧ (a : Int) ≤ (s.size : Int) := by omega
  simp [Instr.slice, Instr.sliceBounds, Instr.sliceBound, asIntOf, run_underlying Try.underlying9, hj]
  try omega
set_option maxHeartbeats 1000000 in
theorem soa (s : ByteArray) (w : World) (hs : s.size ≤ 9223372036854775000) : Calls Try.prog 40 #[.string s] w fun e w' => e = .returned (.bool (soaB s)) ∧ Below w.heap.size w w' := by
  have hB := @endN_bd s 0
  have hN := @endN_neg s 0
  by_cases h : endN s 0 < 0
  · have e1 : soaB s = false := by unfold soaB; simp; omega
    have q : endN s 0 = -1 := hN h
    go_enter Try.func40, Try.ntmps40
    go_wp2_with fail
    refine (ends s _ hs).mono ?_
    rintro e w1 ⟨rfl, hb1⟩
    rw [q]
    go_wp2
    go_ret
    exact ⟨by rw [e1]; rfl, hb1⟩
  · obtain ⟨n, hn⟩ : ∃ n : Nat, endN s 0 = n := ⟨(endN s 0).toNat, by omega⟩
    have hnb := hB (by omega)
    rw [hn] at hnb
    have hle : n ≤ s.size := by omega
    have q1 : decide ((n : Int) < 0) = false := by simp
    have hsh := endN_shift s n hle
    have hB2 := @endN_bd s n
    have hsz : (s.extract n s.size).size ≤ 9223372036854775000 := by rw [ByteArray.size_extract]; omega
    have e1 : soaB s = (decide (0 ≤ endN s n) && decide ((s.size : Int) = endN s n + 20)) := by unfold soaB; rw [hn]; simp
    by_cases h2 : endN s n < 0
    · rw [if_pos h2] at hsh
      have e2 : soaB s = false := by rw [e1]; simp; omega
      go_enter Try.func40, Try.ntmps40
      go_wp2_with fail
      refine (ends s _ hs).mono ?_
      rintro e w1 ⟨rfl, hb1⟩
      rw [hn]
      have hsl := slice_a s n hle w1
      go_wp2_with fail
      refine (ends _ _ hsz).mono ?_
      rintro e w2 ⟨rfl, hb2⟩
      rw [hsh]
      go_wp2
      go_ret
      exact ⟨by rw [e2]; rfl, below_next hb1 hb2⟩
    · obtain ⟨m, hm⟩ : ∃ m : Nat, endN s n = m := ⟨(endN s n).toNat, by omega⟩
      have hmb := hB2 (by omega)
      rw [if_neg h2, hm] at hsh
      rw [hm] at hmb
      obtain ⟨k, hk⟩ : ∃ k : Nat, (m : Int) - n = k := ⟨m - n, by omega⟩
      rw [hk] at hsh
      have q2 : decide ((k : Int) < 0) = false := by simp
      have w1' : wrap64 ((s.size : Int) - n) = (s.size : Int) - n := w64 (by omega) (by omega)
      have w2' : wrap64 ((s.size : Int) - n - k) = (s.size : Int) - n - k := w64 (by omega) (by omega)
      have e2 : soaB s = ((s.size : Int) - n - k == 20) := by rw [e1, hm, Bool.eq_iff_iff]; simp; omega
      have hn' := hn
      clear hmb hB hB2 hN e1 h h2 hm hn hnb hk
      have E2 := Lib.hid e2
      clear e2
      go_enter Try.func40, Try.ntmps40
      go_wp2_with fail
      refine (ends s _ hs).mono ?_
      rintro e w1 ⟨rfl, hb1⟩
      rw [hn']
      have hsl := slice_a s n hle w1
      go_wp2_with fail
      refine (ends _ _ hsz).mono ?_
      rintro e w2 ⟨rfl, hb2⟩
      rw [hsh]
      go_wp2
      go_ret
      exact ⟨by rw [E2.out]; rfl, below_next hb1 hb2⟩
/-- May data be for a type? -/
def mayD (t : Int) (s : ByteArray) : Bool :=
  if t < 1 then false else if 65535 < t then false else if 65535 < s.size then false else
  if t = 1 then decide (s.size = 4) else if t = 28 then decide (s.size = 16) else
  if t = 2 then nameB s else if t = 5 then nameB s else if t = 12 then nameB s else
  if t = 15 then decide (2 ≤ s.size) && nameB (s.extract 2 s.size) else
  if t = 6 then soaB s else if t = 16 then textsB s else true
end Go.Proofs.Ythlajjcdmhgcmaa.Rd

namespace Go.Proofs.Ythlajjcdmhgcmaa.Rd
open Go.RowKit Go.PlainAid Go.Proofs.Ythlajjcdmhgcmaa.Base Go.Proofs.Ythlajjcdmhgcmaa.Sl Go.Proofs.Ythlajjcdmhgcmaa.Nm
set_option linter.unusedVariables false

theorem mayD_body {t : Int} {s : ByteArray} (h1 : ¬ t < 1) (h2 : ¬ 65535 < t) (h3 : ¬ 65535 < s.size) : mayD t s =
    if t = 1 then decide (s.size = 4) else if t = 28 then decide (s.size = 16) else
    if t = 2 then nameB s else if t = 5 then nameB s else if t = 12 then nameB s else
    if t = 15 then decide (2 ≤ s.size) && nameB (s.extract 2 s.size) else
    if t = 6 then soaB s else if t = 16 then textsB s else true := by
  unfold mayD; rw [if_neg h1, if_neg h2, if_neg h3]
set_option maxRecDepth 100000 in
set_option maxHeartbeats 1000000 in
theorem dmayOut (t : Int) (s : ByteArray) (w : World) (hs : s.size ≤ 9223372036854775000) (h : t < 1 ∨ 65535 < t ∨ 65535 < s.size) : Calls Try.prog 26 #[.int .i64 t, .string s] w fun e w' => e = .returned (.bool (mayD t s)) ∧ Below w.heap.size w w' := by
  have e1 : mayD t s = false := by
    unfold mayD
    by_cases h1 : t < 1
    · rw [if_pos h1]
    · rw [if_neg h1]
      by_cases h2 : 65535 < t
      · rw [if_pos h2]
      · rw [if_neg h2, if_pos (by omega)]
  by_cases h1 : t < 1
  · have q1 : decide (t < 1) = true := decide_eq_true h1
    clear h
    go_enter Try.func26, Try.ntmps26
    go_wp2
    go_ret
    exact ⟨by first | rfl | (rw [e1]; rfl), Below.refl _ _⟩
  · have q1 : decide (t < 1) = false := decide_eq_false h1
    by_cases h2 : 65535 < t
    · have q2 : decide (65535 < t) = true := decide_eq_true h2
      clear h
      go_enter Try.func26, Try.ntmps26
      go_wp2
      go_ret
      exact ⟨by first | rfl | (rw [e1]; rfl), Below.refl _ _⟩
    · have q2 : decide (65535 < t) = false := decide_eq_false h2
      have q3 : decide ((65535 : Int) < s.size) = true := by simp; omega
      clear h
      go_enter Try.func26, Try.ntmps26
      go_wp2
      go_ret
      exact ⟨by first | rfl | (rw [e1]; rfl), Below.refl _ _⟩

set_option maxRecDepth 100000 in
set_option maxHeartbeats 1000000 in
theorem dmay1 (s : ByteArray) (w : World) (hs : s.size ≤ 9223372036854775000) (h3 : ¬ 65535 < s.size) : Calls Try.prog 26 #[.int .i64 1, .string s] w fun e w' => e = .returned (.bool (mayD 1 s)) ∧ Below w.heap.size w w' := by
  have q3 : decide ((65535 : Int) < s.size) = false := by simp; omega
  have hm : mayD 1 s = _ := mayD_body (t := 1) (by decide) (by decide) h3
  have e1 : mayD 1 s = ((s.size : Int) == 4) := by rw [hm, Bool.eq_iff_iff]; simp; omega
  have E := Lib.hid e1
  clear hm e1
  go_enter Try.func26, Try.ntmps26
  go_wp2
  go_ret
  exact ⟨by rw [E.out]; rfl, Below.refl _ _⟩

set_option maxRecDepth 100000 in
set_option maxHeartbeats 1000000 in
theorem dmay28 (s : ByteArray) (w : World) (hs : s.size ≤ 9223372036854775000) (h3 : ¬ 65535 < s.size) : Calls Try.prog 26 #[.int .i64 28, .string s] w fun e w' => e = .returned (.bool (mayD 28 s)) ∧ Below w.heap.size w w' := by
  have q3 : decide ((65535 : Int) < s.size) = false := by simp; omega
  have hm : mayD 28 s = _ := mayD_body (t := 28) (by decide) (by decide) h3
  have e1 : mayD 28 s = ((s.size : Int) == 16) := by rw [hm, Bool.eq_iff_iff]; simp; omega
  have E := Lib.hid e1
  clear hm e1
  go_enter Try.func26, Try.ntmps26
  go_wp2
  go_ret
  exact ⟨by rw [E.out]; rfl, Below.refl _ _⟩

set_option maxRecDepth 100000 in
set_option maxHeartbeats 1000000 in
theorem dmay2 (s : ByteArray) (w : World) (hs : s.size ≤ 9223372036854775000) (h3 : ¬ 65535 < s.size) : Calls Try.prog 26 #[.int .i64 2, .string s] w fun e w' => e = .returned (.bool (mayD 2 s)) ∧ Below w.heap.size w w' := by
  have q3 : decide ((65535 : Int) < s.size) = false := by simp; omega
  have hm : mayD 2 s = _ := mayD_body (t := 2) (by decide) (by decide) h3
  have e1 : mayD 2 s = nameB s := by rw [hm]; simp
  have E := Lib.hid e1
  clear hm e1
  go_enter Try.func26, Try.ntmps26
  go_wp2_with fail
  refine (may s _).mono ?_
  rintro e w1 ⟨rfl, hb1⟩
  go_wp2
  go_ret
  exact ⟨by rw [E.out]; rfl, hb1⟩

set_option maxRecDepth 100000 in
set_option maxHeartbeats 1000000 in
theorem dmay5 (s : ByteArray) (w : World) (hs : s.size ≤ 9223372036854775000) (h3 : ¬ 65535 < s.size) : Calls Try.prog 26 #[.int .i64 5, .string s] w fun e w' => e = .returned (.bool (mayD 5 s)) ∧ Below w.heap.size w w' := by
  have q3 : decide ((65535 : Int) < s.size) = false := by simp; omega
  have hm : mayD 5 s = _ := mayD_body (t := 5) (by decide) (by decide) h3
  have e1 : mayD 5 s = nameB s := by rw [hm]; simp
  have E := Lib.hid e1
  clear hm e1
  go_enter Try.func26, Try.ntmps26
  go_wp2_with fail
  refine (may s _).mono ?_
  rintro e w1 ⟨rfl, hb1⟩
  go_wp2
  go_ret
  exact ⟨by rw [E.out]; rfl, hb1⟩

set_option maxRecDepth 100000 in
set_option maxHeartbeats 1000000 in
theorem dmay12 (s : ByteArray) (w : World) (hs : s.size ≤ 9223372036854775000) (h3 : ¬ 65535 < s.size) : Calls Try.prog 26 #[.int .i64 12, .string s] w fun e w' => e = .returned (.bool (mayD 12 s)) ∧ Below w.heap.size w w' := by
  have q3 : decide ((65535 : Int) < s.size) = false := by simp; omega
  have hm : mayD 12 s = _ := mayD_body (t := 12) (by decide) (by decide) h3
  have e1 : mayD 12 s = nameB s := by rw [hm]; simp
  have E := Lib.hid e1
  clear hm e1
  go_enter Try.func26, Try.ntmps26
  go_wp2_with fail
  refine (may s _).mono ?_
  rintro e w1 ⟨rfl, hb1⟩
  go_wp2
  go_ret
  exact ⟨by rw [E.out]; rfl, hb1⟩

set_option maxRecDepth 100000 in
set_option maxHeartbeats 1000000 in
theorem dmay15 (s : ByteArray) (w : World) (hs : s.size ≤ 9223372036854775000) (h3 : ¬ 65535 < s.size) : Calls Try.prog 26 #[.int .i64 15, .string s] w fun e w' => e = .returned (.bool (mayD 15 s)) ∧ Below w.heap.size w w' := by
  have q3 : decide ((65535 : Int) < s.size) = false := by simp; omega
  have hm : mayD 15 s = _ := mayD_body (t := 15) (by decide) (by decide) h3
  by_cases h2 : 2 ≤ s.size
  · have q4 : decide ((2 : Int) ≤ s.size) = true := by simp; omega
    have e1 : mayD 15 s = nameB (s.extract 2 s.size) := by rw [hm]; simp [h2]
    have E := Lib.hid e1
    have hsl := slice_a s 2 h2 w
    clear hm e1
    go_enter Try.func26, Try.ntmps26
    go_wp2_with fail
    refine (may _ _).mono ?_
    rintro e w1 ⟨rfl, hb1⟩
    go_wp2
    go_ret
    exact ⟨by rw [E.out]; rfl, hb1⟩
  · have q4 : decide ((2 : Int) ≤ s.size) = false := by simp; omega
    have e1 : mayD 15 s = false := by rw [hm]; simp [h2]
    have E := Lib.hid e1
    clear hm e1
    go_enter Try.func26, Try.ntmps26
    go_wp2
    go_ret
    exact ⟨by rw [E.out]; rfl, Below.refl _ _⟩

set_option maxRecDepth 100000 in
set_option maxHeartbeats 1000000 in
theorem dmay6 (s : ByteArray) (w : World) (hs : s.size ≤ 9223372036854775000) (h3 : ¬ 65535 < s.size) : Calls Try.prog 26 #[.int .i64 6, .string s] w fun e w' => e = .returned (.bool (mayD 6 s)) ∧ Below w.heap.size w w' := by
  have q3 : decide ((65535 : Int) < s.size) = false := by simp; omega
  have hm : mayD 6 s = _ := mayD_body (t := 6) (by decide) (by decide) h3
  have e1 : mayD 6 s = soaB s := by rw [hm]; simp
  have E := Lib.hid e1
  clear hm e1
  go_enter Try.func26, Try.ntmps26
  go_wp2_with fail
  refine (soa s _ hs).mono ?_
  rintro e w1 ⟨rfl, hb1⟩
  go_wp2
  go_ret
  exact ⟨by rw [E.out]; rfl, hb1⟩

set_option maxRecDepth 100000 in
set_option maxHeartbeats 1000000 in
theorem dmay16 (s : ByteArray) (w : World) (hs : s.size ≤ 9223372036854775000) (h3 : ¬ 65535 < s.size) : Calls Try.prog 26 #[.int .i64 16, .string s] w fun e w' => e = .returned (.bool (mayD 16 s)) ∧ Below w.heap.size w w' := by
  have q3 : decide ((65535 : Int) < s.size) = false := by simp; omega
  have hm : mayD 16 s = _ := mayD_body (t := 16) (by decide) (by decide) h3
  have e1 : mayD 16 s = textsB s := by rw [hm]; simp
  have E := Lib.hid e1
  clear hm e1
  go_enter Try.func26, Try.ntmps26
  go_wp2_with fail
  refine (texts s _ hs).mono ?_
  rintro e w1 ⟨rfl, rfl⟩
  go_wp2
  go_ret
  exact ⟨by rw [E.out]; rfl, Below.refl _ _⟩

set_option maxRecDepth 100000 in
set_option maxHeartbeats 1000000 in
theorem dmayRest (t : Int) (s : ByteArray) (w : World) (hs : s.size ≤ 9223372036854775000) (h1 : ¬ t < 1) (h2 : ¬ 65535 < t) (h3 : ¬ 65535 < s.size) (k1 : ¬ t = 1) (k28 : ¬ t = 28) (k2 : ¬ t = 2) (k5 : ¬ t = 5) (k12 : ¬ t = 12) (k15 : ¬ t = 15) (k6 : ¬ t = 6) (k16 : ¬ t = 16) : Calls Try.prog 26 #[.int .i64 t, .string s] w fun e w' => e = .returned (.bool (mayD t s)) ∧ Below w.heap.size w w' := by
  have e1 : mayD t s = true := by rw [mayD_body h1 h2 h3]; simp [k1, k28, k2, k5, k12, k15, k6, k16]
  have p1 : decide (t < 1) = false := decide_eq_false h1
  have p2 : decide (65535 < t) = false := decide_eq_false h2
  have p3 : decide ((65535 : Int) < s.size) = false := by simp; omega
  have q1 : (t == 1) = false := by simp [k1]
  have q28 : (t == 28) = false := by simp [k28]
  have q2 : (t == 2) = false := by simp [k2]
  have q5 : (t == 5) = false := by simp [k5]
  have q12 : (t == 12) = false := by simp [k12]
  have q15 : (t == 15) = false := by simp [k15]
  have q6 : (t == 6) = false := by simp [k6]
  have q16 : (t == 16) = false := by simp [k16]
  clear h1 h2 h3 k1 k28 k2 k5 k12 k15 k6 k16
  go_enter Try.func26, Try.ntmps26
  go_wp2
  go_ret
  exact ⟨by first | rfl | (rw [e1]; rfl), Below.refl _ _⟩

theorem dmay (t : Int) (s : ByteArray) (w : World) (hs : s.size ≤ 9223372036854775000) : Calls Try.prog 26 #[.int .i64 t, .string s] w fun e w' => e = .returned (.bool (mayD t s)) ∧ Below w.heap.size w w' := by
  by_cases h1 : t < 1
  · exact dmayOut t s w hs (.inl h1)
  by_cases h2 : 65535 < t
  · exact dmayOut t s w hs (.inr (.inl h2))
  by_cases h3 : 65535 < s.size
  · exact dmayOut t s w hs (.inr (.inr h3))
  by_cases k1 : t = 1
  · subst k1; exact dmay1 s w hs h3
  by_cases k28 : t = 28
  · subst k28; exact dmay28 s w hs h3
  by_cases k2 : t = 2
  · subst k2; exact dmay2 s w hs h3
  by_cases k5 : t = 5
  · subst k5; exact dmay5 s w hs h3
  by_cases k12 : t = 12
  · subst k12; exact dmay12 s w hs h3
  by_cases k15 : t = 15
  · subst k15; exact dmay15 s w hs h3
  by_cases k6 : t = 6
  · subst k6; exact dmay6 s w hs h3
  by_cases k16 : t = 16
  · subst k16; exact dmay16 s w hs h3
  exact dmayRest t s w hs h1 h2 h3 k1 k28 k2 k5 k12 k15 k6 k16

end Go.Proofs.Ythlajjcdmhgcmaa.Rd

namespace Go.Proofs.Ythlajjcdmhgcmaa.BRow
open Go.RowKit Go.PlainAid Go.Proofs.Ythlajjcdmhgcmaa.Base
set_option linter.unusedVariables false
/-- Block g begins with the bytes l, none of them frozen. -/
def Is (w : World) (e g : Nat) (l : List UInt8) : Prop := ∃ cs lo hi, w.heap[g]? = some (.cells cs e (lo, hi)) ∧ l.length ≤ lo ∧ l.length ≤ cs.size ∧ ∀ j, j < l.length → cs[j]? = some (.int .u8 ((l.getD j 0).toNat : Int))
section
variable {w w' : World} {e g : Nat} {l : List UInt8}
theorem Is.lt (h : Is w e g l) : g < w.heap.size := by
  obtain ⟨cs, lo, hi, h, _⟩ := h
  exact (Array.getElem?_eq_some_iff.1 h).1
theorem Is.cell (h : Is w e g l) (j : Nat) (hj : j < l.length) : w.cell? ⟨g, j, none⟩ = some (.int .u8 ((l.getD j 0).toNat : Int)) := by
  obtain ⟨cs, lo, hi, hb, _, _, hc⟩ := h
  simp [World.cell?, hb, hc j hj]
theorem Is.free (h : Is w e g l) (j : Nat) (hj : j < l.length) : w.frozen? ⟨g, j, none⟩ = false := by
  obtain ⟨cs, lo, hi, hb, hlo, _, hc⟩ := h
  simp [World.frozen?, hb]
  omega
theorem Is.below (h : Is w e g l) (hb : Below w.heap.size w w') : Is w' e g l := by
  have hlt := h.lt
  obtain ⟨cs, lo, hi, hk, r⟩ := h
  exact ⟨cs, lo, hi, (hb.block g hlt).trans hk, r⟩
theorem Is.set (h : Is w e g l) (j : Nat) (hj : j < l.length) (v : UInt8) : Is (w.setCell ⟨g, j, none⟩ (.int .u8 (v.toNat : Int))) e g (l.set j v) := by
  obtain ⟨cs, lo, hi, hk, h1, h2, hc⟩ := h
  refine ⟨cs.setIfInBounds j (.int .u8 (v.toNat : Int)), lo, hi, ?_, by rw [List.length_set]; exact h1, by rw [List.length_set, Array.size_setIfInBounds]; exact h2, fun i hi' => ?_⟩
  · have hlt := (Array.getElem?_eq_some_iff.1 hk).1
    have hg : w.heap[g] = .cells cs e (lo, hi) := (Array.getElem?_eq_some_iff.1 hk).2
    unfold World.setCell
    rw [Array.getElem?_eq_getElem (by simpa using hlt)]
    rw [Array.getElem_modify_self, hg]
    rfl
  · rw [List.length_set] at hi'
    by_cases e' : j = i
    · subst e'
      rw [Array.getElem?_setIfInBounds_self_of_lt (by omega)]
      simp [List.getD_eq_getElem?_getD, hj]
    · rw [Array.getElem?_setIfInBounds_ne e', hc i hi']
      simp [List.getD_eq_getElem?_getD, List.getElem?_set_ne e']
theorem Is.back {P : Program} (h : Is w e g l) (src dst cap n : Nat) (hs : P.underlying src = some (.slice e)) (he : P.underlying e = some (.int .u8)) (hd : P.underlying dst = some .string) (hn : n = l.length) :
    (convert src dst (.slice (some ⟨g, 0, none⟩) n cap)).run P w = .ok (.string ⟨l.toArray⟩) w := by
  subst hn
  refine run_convert_bytes_back w src dst e ⟨g, 0, none⟩ cap l hs he hd fun j hj => ?_
  have := h.cell j hj
  have ea : (⟨g, 0, none⟩ : Addr).add j = ⟨g, j, none⟩ := by
    unfold Addr.add
    split
    · simp_all
    · simp
  rw [ea, this]
  simp [List.getD_eq_getElem?_getD, hj]
end
/-- '[]byte(s)': a new block, the elder ones as they were. -/
theorem made (w : World) (e : Nat) (s : ByteArray) : Below w.heap.size w (Lib.bytesWorld w e s) ∧ Is (Lib.bytesWorld w e s) e w.heap.size s.data.toList ∧ (Lib.bytesWorld w e s).heap.size = w.heap.size + 1 := by
  refine ⟨⟨rfl, rfl, rfl, by rw [Lib.bytesWorld_size]; omega, fun j hj => Lib.bytesWorld_at_old w e s j hj⟩, ⟨_, _, _, Lib.bytesWorld_at_new w e s, ?_, ?_, ?_⟩, Lib.bytesWorld_size w e s⟩
  · unfold Lib.bytesCells; simp
  · unfold Lib.bytesCells; simp
  · intro j hj
    have hj' : j < s.data.size := by simpa using hj
    unfold Lib.bytesCells
    rw [Array.getElem?_append_left (by simpa using hj')]
    simp [List.getD_eq_getElem?_getD, Array.getElem?_eq_getElem hj']
end Go.Proofs.Ythlajjcdmhgcmaa.BRow

namespace Go.Proofs.Ythlajjcdmhgcmaa.Bld
open Go.RowKit Go.Shelf Go.Proofs.Ythlajjcdmhgcmaa.Base
set_option linter.unusedVariables false
set_option linter.unusedSimpArgs false
/-- A builder in block b holds the bytes l. -/
def Is (w : World) (B b : Nat) (l : List UInt8) : Prop := Lib.IsBuilder 73 5 B b (Lib.byteCells l) w
theorem info_Byte : ∃ i0, Try.prog.info? 5 = some i0 ∧ i0.zero = some (.int .u8 0) ∧ i0.size = 1 ∧ i0.bytes = 1 := info_parts (by kernel_rfl)
theorem sizeB : ∃ j, Try.prog.info? 73 = some j ∧ j.size = 2 := Option.map_eq_some_iff.1 (by kernel_rfl)
theorem liesB : liesAt Try.prog Try.prog.depth 73 (2 / Try.prog.cellsOf 73) 0 73 1 = true := by kernel_rfl
set_option maxHeartbeats 1000000 in
set_option maxRecDepth 100000 in
theorem check_used (b : Nat) (w : World) (h0 : w.cell? ⟨b, 0, none⟩ = some (.pointer (some ⟨b, 0, none⟩))) :
    Calls Try.prog 52 #[.pointer (some ⟨b, 0, none⟩)] w fun e w' => e = .returned (.tuple #[]) ∧ w' = w := by
  obtain ⟨j, hj, _⟩ := sizeB
  go_enter Try.func52, Try.ntmps52
  go_wp2
  rw [Lib.run_neq_ptr_same w _ Try.underlying71 hj]
  go_wp2
  go_end0
  exact ⟨rfl, rfl⟩
set_option maxHeartbeats 1000000 in
set_option maxRecDepth 100000 in
theorem check_fresh (b : Nat) (w : World) (h0 : w.cell? ⟨b, 0, none⟩ = some (.pointer none)) (hsh : w.shape? b = some (73, 2)) (hfz : w.frozen? ⟨b, 0, none⟩ = false) :
    Calls Try.prog 52 #[.pointer (some ⟨b, 0, none⟩)] w fun e w' => e = .returned (.tuple #[]) ∧ w' = w.setCell ⟨b, 0, none⟩ (.pointer (some ⟨b, 0, none⟩)) := by
  obtain ⟨j, hj, hjs⟩ := sizeB
  go_enter Try.func52, Try.ntmps52
  go_wp2
  rw [Lib.run_to_unsafe w ⟨b, 0, none⟩ Try.underlying71 Try.underlying97 hj (by rw [hjs]; decide) hsh (Nat.zero_lt_succ 1)]
  simp only [Result.andThen]
  rw [Oper.upon_value]
  go_wp2
  rw [run_callFunc_extern Try.func65 (by kernel_rfl) (by kernel_rfl) (by kernel_rfl) (e := Extern.AbiNoEscape.same) (by kernel_rfl)]
  rw [Lib.run_noEscape]
  simp only [Result.andThen]
  rw [Oper.upon_value]
  go_wp2
  rw [Lib.run_from_unsafe w ⟨b, 0, none⟩ Try.underlying97 Try.underlying71 hj hsh liesB]
  simp only [Result.andThen]
  rw [Oper.upon_value]
  go_wp2
  go_end0
  exact ⟨rfl, rfl⟩
theorem checkc (B b : Nat) (bs : List Value) (w : World) (h : Lib.IsBuilder 73 5 B b bs w) :
    Calls Try.prog 52 #[.pointer (some ⟨b, 0, none⟩)] w fun e w' => e = .returned (.tuple #[]) ∧ (Lib.BuilderAt 73 5 B b (.pointer (some ⟨b, 0, none⟩)) bs w' ∧ Below B w w') := by
  rcases h with h | h
  · refine (check_fresh b w h.cell0 h.shape h.frozen0).mono ?_
    rintro e w' ⟨rfl, rfl⟩
    exact ⟨rfl, h.used _, (Below.refl B w).setCell (p := ⟨b, 0, none⟩) h.1 _⟩
  · refine (check_used b w h.cell0).mono ?_
    rintro e w' ⟨rfl, rfl⟩
    exact ⟨rfl, h, Below.refl B _⟩
set_option maxHeartbeats 2000000 in
set_option maxRecDepth 100000 in
theorem bytec (B b : Nat) (l : List UInt8) (x : UInt8) (w : World) (h : Is w B b l) (hlen : l.length + 1 ≤ 140737488355328) (hBw : B ≤ w.heap.size) :
    Calls Try.prog 43 #[.pointer (some ⟨b, 0, none⟩), .int .u8 (x.toNat : Int)] w fun e w' => e = .returned .nilIface ∧ (Is w' B b (l ++ [x]) ∧ Below B w w') := by
  obtain ⟨i0, hi, hz0, hz1, hz2⟩ := info_Byte
  have hl : (Lib.byteCells l).length = l.length := Lib.byteCells_length l
  go_enter Try.func43, Try.ntmps43
  go_wp2_with (go_at_call 52; refine (checkc B b _ _ h).mono ?_)
  rintro e w1 ⟨rfl, h1, hb1⟩
  obtain ⟨hB, v, hbk, hown, hne⟩ := h1
  have c0 : w1.cell? ⟨b, 0, none⟩ = some (.pointer (some ⟨b, 0, none⟩)) := by rw [Lib.cell_of_heap hbk]; rfl
  have c1 : w1.cell? ⟨b, 1, none⟩ = some v := by rw [Lib.cell_of_heap hbk]; rfl
  go_wp2_with (at_builtin; refine wpList_append_own _ rfl _ _ 55 rfl B 5 i0 (.int .u8 0) 1 1 Try.underlying55 hi hz0 hz1 hz2 rfl (by decide) _ _ _ rfl (hown.alloc _) ⟨w1.heap.size, 0, none⟩ 1 1 [.int .u8 (x.toNat : Int)] rfl rfl ?c1 ?c2 ?c3 ?c4 ?c5 ?_)
  case c1 =>
    intro j u hj
    match j, hj with
    | 0, hj => simp at hj; subst hj; simp [Addr.add]
  case c2 => intro u hu; simp at hu; subst hu; rfl
  case c3 => unfold maxLen; omega
  case c4 => omega
  case c5 => have := hb1.size; simp; omega
  intro v' w2 hown' hgrow _
  have hlt : b < w1.heap.size := by
    rcases Nat.lt_or_ge b w1.heap.size with h' | h'
    · exact h'
    · simp [Array.getElem?_eq_none h'] at hbk
  have hb2 : w2.heap[b]? = some (.cells #[.pointer (some ⟨b, 0, none⟩), v] 73 (0, 0)) := by
    rw [hgrow.block b (by simp; omega) (fun e => hne e.symm), Lib.alloc_old w1 _ b hlt]
    exact hbk
  have d0 : w2.cell? ⟨b, 0, none⟩ = some (.pointer (some ⟨b, 0, none⟩)) := by rw [Lib.cell_of_heap hb2]; rfl
  have d1 : w2.cell? ⟨b, 1, none⟩ = some v := by rw [Lib.cell_of_heap hb2]; rfl
  have f1 : w2.frozen? ⟨b, 1, none⟩ = false := Lib.frozen_of_heap hb2 1
  obtain ⟨g, cap, rfl⟩ : ∃ g cap, v' = .slice (some ⟨g, 0, none⟩) (l.length + 1) cap := by
    rcases hown'.2 with ⟨_, h0⟩ | ⟨g, cap, cur, hv, _⟩
    · omega
    · exact ⟨g, cap, hv⟩
  go_wp2
  go_ret
  have eb : Lib.byteCells (l ++ [x]) = Lib.byteCells l ++ [.int .u8 (x.toNat : Int)] := by simp [Lib.byteCells]
  refine ⟨rfl, Or.inr ?_, ?_⟩
  · rw [eb]
    exact Lib.BuilderAt.put (T := 73) (e := 5) hB hb2 (bs' := Lib.byteCells l ++ [.int .u8 (x.toNat : Int)]) (by rw [List.length_append, hl]; exact hown') (by decide)
  · exact ((hb1.alloc (by have := hb1.size; omega) _).grown hgrow (by have := hb1.size; simp; omega) (fun k hk => (hown.lt k hk).1)).setCell (p := ⟨b, 1, none⟩) hB _
set_option maxHeartbeats 2000000 in
set_option maxRecDepth 100000 in
theorem stringc (B b : Nat) (l : List UInt8) (s : ByteArray) (w : World) (h : Is w B b l) (hlen : l.length + s.size ≤ 140737488355328) (hBw : B ≤ w.heap.size) :
    Calls Try.prog 44 #[.pointer (some ⟨b, 0, none⟩), .string s] w fun e w' => e = .returned (.tuple #[.int .i64 s.size, .nilIface]) ∧ (Is w' B b (l ++ s.data.toList) ∧ Below B w w') := by
  obtain ⟨i0, hi, hz0, hz1, hz2⟩ := info_Byte
  have hl : (Lib.byteCells l).length = l.length := Lib.byteCells_length l
  go_enter Try.func44, Try.ntmps44
  go_wp2_with (go_at_call 52; refine (checkc B b _ _ h).mono ?_)
  rintro e w1 ⟨rfl, h1, hb1⟩
  obtain ⟨hB, v, hbk, hown, hne⟩ := h1
  have c0 : w1.cell? ⟨b, 0, none⟩ = some (.pointer (some ⟨b, 0, none⟩)) := by rw [Lib.cell_of_heap hbk]; rfl
  have c1 : w1.cell? ⟨b, 1, none⟩ = some v := by rw [Lib.cell_of_heap hbk]; rfl
  go_wp2_with (at_builtin; refine Lib.wpList_append_own_string _ rfl _ _ 55 9 rfl B 5 i0 Try.underlying55 Try.underlying9 hi hz0 hz1 hz2 _ _ _ rfl hown s rfl ?c3 ?c4 ?c5 ?_)
  case c3 => unfold maxLen; omega
  case c4 => omega
  case c5 => have := hb1.size; omega
  intro v' w2 hown' hgrow _
  have hlt : b < w1.heap.size := by
    rcases Nat.lt_or_ge b w1.heap.size with h' | h'
    · exact h'
    · simp [Array.getElem?_eq_none h'] at hbk
  have hb2 : w2.heap[b]? = some (.cells #[.pointer (some ⟨b, 0, none⟩), v] 73 (0, 0)) := by
    rw [hgrow.block b hlt (fun e => hne e.symm)]
    exact hbk
  have d0 : w2.cell? ⟨b, 0, none⟩ = some (.pointer (some ⟨b, 0, none⟩)) := by rw [Lib.cell_of_heap hb2]; rfl
  have d1 : w2.cell? ⟨b, 1, none⟩ = some v := by rw [Lib.cell_of_heap hb2]; rfl
  have f1 : w2.frozen? ⟨b, 1, none⟩ = false := Lib.frozen_of_heap hb2 1
  obtain ⟨ao, n', cap, rfl⟩ : ∃ ao n' cap, v' = .slice ao n' cap := by
    rcases hown'.2 with ⟨hv, _⟩ | ⟨g, cap, cur, hv, _⟩
    · exact ⟨_, _, _, hv⟩
    · exact ⟨_, _, _, hv⟩
  go_wp2
  go_ret2
  have eb : Lib.byteCells (l ++ s.data.toList) = Lib.byteCells l ++ Lib.strCells s := by simp [Lib.byteCells, Lib.strCells]
  refine ⟨rfl, Or.inr ?_, ?_⟩
  · rw [eb]
    exact Lib.BuilderAt.put (T := 73) (e := 5) hB hb2 (bs' := Lib.byteCells l ++ Lib.strCells s) (by rw [List.length_append, hl, Lib.strCells_length]; exact hown') (by decide)
  · exact (hb1.grown hgrow (by have := hb1.size; omega) (fun k hk => (hown.lt k hk).1)).setCell (p := ⟨b, 1, none⟩) hB _
def lays_ren : Go.Shelf.Ren := ⟨fun | 169 => 46 | n => n, fun | 70 => 71 | 9 => 9 | 0 => 0 | 72 => 73 | 37 => 55 | 127 => 85 | 3 => 3 | 5 => 5 | n => n, fun | n => n⟩
theorem lays : Go.Proofs.Lays.n169 Try.prog lays_ren := {
  mixed := by kernel_rfl
  f169 := Try.func46.trans (congrArg some (by kernel_rfl))
  t0 := Try.underlying0
  a0 := Try.isAgg0
  z0 := Try.sizeOf0
  v0 := Try.zeroValue0
  t3 := Try.underlying3
  a3 := Try.isAgg3
  z3 := Try.sizeOf3
  v3 := Try.zeroValue3
  t9 := Try.underlying9
  a9 := Try.isAgg9
  z9 := Try.sizeOf9
  v9 := Try.zeroValue9
  t37 := Try.underlying55
  a37 := Try.isAgg55
  z37 := Try.sizeOf55
  v37 := Try.zeroValue55
  t70 := Try.underlying71
  a70 := Try.isAgg71
  z70 := Try.sizeOf71
  v70 := Try.zeroValue71
  t72 := Try.underlying73
  a72 := Try.isAgg73
  z72 := Try.sizeOf73
  v72 := Try.zeroValue73
  t127 := Try.underlying85
  a127 := Try.isAgg85
  z127 := Try.sizeOf85
  v127 := Try.zeroValue85 }
theorem extra : Builder.Extra Try.prog lays_ren := {
  sizeBuilder := by kernel_rfl
  liesBuilder := by kernel_rfl
  t5 := Try.underlying5
  a5 := Try.isAgg5
  z5 := Try.sizeOf5
  v5 := Try.zeroValue5
  infoByte := by kernel_rfl
  cellsByte := by kernel_rfl
  sizeByte := by kernel_rfl
  neB5 := by decide }
theorem strc (B b : Nat) (l : List UInt8) (w : World) (h : Is w B b l) (hBw : B ≤ w.heap.size) :
    Calls Try.prog 46 #[.pointer (some ⟨b, 0, none⟩)] w fun e w' => e = .returned (.string ⟨l.toArray⟩) ∧ Below B w w' := Any.Builder_String_any lays extra B b l w h hBw
theorem Is.below {w w' : World} {B b : Nat} {l : List UInt8} (h : Is w B b l) (hb : Below w.heap.size w w') : Is w' B b l := by
  have H : ∀ p, Lib.BuilderAt 73 5 B b p (Lib.byteCells l) w → Lib.BuilderAt 73 5 B b p (Lib.byteCells l) w' := by
    rintro p ⟨h1, v, h2, h3, h4⟩
    have hlt : b < w.heap.size := Lib.BuilderAt.lt ⟨h1, v, h2, h3, h4⟩
    exact ⟨h1, v, (hb.block b hlt).trans h2, Sl.own_below h3 hb, h4⟩
  exact h.imp (H _) (H _)
theorem fresh (w : World) : Is (w.alloc (.cells #[.pointer none, .slice none 0 0] 73)) w.heap.size w.heap.size [] := Lib.fresh_isBuilder _ _ w
end Go.Proofs.Ythlajjcdmhgcmaa.Bld

namespace Go.Proofs.Ythlajjcdmhgcmaa.Fo
open Go.RowKit Go.PlainAid Go.Proofs.Ythlajjcdmhgcmaa.Base Go.Proofs.Ythlajjcdmhgcmaa.Sl Go.Proofs.Ythlajjcdmhgcmaa.Nm
set_option linter.unusedVariables false
set_option linter.unusedSimpArgs false
def lowB (x : UInt8) : UInt8 := if 65 ≤ x.toNat ∧ x.toNat ≤ 90 then UInt8.ofNat (x.toNat + 32) else x
def foldS (s : ByteArray) : ByteArray := ⟨(s.data.toList.map lowB).toArray⟩
theorem foldS_size (s : ByteArray) : (foldS s).size = s.size := by unfold foldS; show ((s.data.toList.map lowB).toArray).size = s.data.size; simp
theorem low_nat (x : UInt8) : (lowB x).toNat = if 65 ≤ x.toNat ∧ x.toNat ≤ 90 then x.toNat + 32 else x.toNat := by
  unfold lowB
  split
  · rw [UInt8.toNat_ofNat']; omega
  · rfl
theorem foldc (x : UInt8) (w : World) : Calls Try.prog 53 #[.int .u8 (x.toNat : Int)] w fun e w' => e = .returned (.int .u8 ((lowB x).toNat : Int)) ∧ w' = w := by
  have hx : x.toNat < 256 := x.toNat_lt
  by_cases h : 65 ≤ x.toNat ∧ x.toNat ≤ 90
  · have e1 : lowB x = UInt8.ofNat (x.toNat + 32) := if_pos h
    have q1 : decide ((65 : Int) ≤ x.toNat) = true := by simp; omega
    have q2 : decide ((x.toNat : Int) ≤ 90) = true := by simp; omega
    have hn : (lowB x).toNat = x.toNat + 32 := by rw [low_nat, if_pos h]
    have hw : IntKind.u8.wrap ((x.toNat : Int) + 32) = ((lowB x).toNat : Int) := by
      rw [hn]
      show (((x.toNat : Int) + 32) % 256) = _
      omega
    go_enter Try.func53, Try.ntmps53
    go_wp2
    go_ret
    first
    | exact ⟨by rw [hw], rfl⟩
    | exact ⟨by rw [← hw]; rfl, rfl⟩
  · have e1 : lowB x = x := if_neg h
    by_cases h1 : 65 ≤ x.toNat
    · have q1 : decide ((65 : Int) ≤ x.toNat) = true := by simp; omega
      have q2 : decide ((x.toNat : Int) ≤ 90) = false := by simp; omega
      go_enter Try.func53, Try.ntmps53
      go_wp2
      go_ret
      exact ⟨by rw [e1]; rfl, rfl⟩
    · have q1 : decide ((65 : Int) ≤ x.toNat) = false := by simp; omega
      go_enter Try.func53, Try.ntmps53
      go_wp2
      go_ret
      exact ⟨by rw [e1]; rfl, rfl⟩
/-- The first i bytes folded. -/
def part (l : List UInt8) (i : Nat) : List UInt8 := (l.take i).map lowB ++ l.drop i
theorem part_length (l : List UInt8) (i : Nat) : (part l i).length = l.length := by unfold part; simp; omega
theorem part_get (l : List UInt8) (i : Nat) (h : i < l.length) : (part l i).getD i 0 = l.getD i 0 := by
  unfold part
  rw [List.getD_eq_getElem?_getD, List.getElem?_append_right (by simp; omega)]
  simp [List.getD_eq_getElem?_getD, Nat.min_eq_left (Nat.le_of_lt h)]
theorem part_set (l : List UInt8) (i : Nat) (h : i < l.length) : (part l i).set i (lowB (l.getD i 0)) = part l (i + 1) := by
  unfold part
  rw [List.drop_eq_getElem_cons h, List.take_succ_eq_append_getElem h, List.map_append]
  rw [List.set_append_right _ _ (by simp; omega)]
  have e : i - (List.map lowB (List.take i l)).length = 0 := by simp; omega
  rw [e]
  rw [List.set_cons_zero]
  simp [List.getD_eq_getElem?_getD, h]
theorem part_all (l : List UInt8) : part l l.length = l.map lowB := by unfold part; simp
set_option maxHeartbeats 2000000 in
theorem foldedc (l : ByteArray) (hl : l.size ≤ 255) (w : World) : Calls Try.prog 45 #[.string l] w fun e w' => e = .returned (.string (foldS l)) ∧ Below w.heap.size w w' := by
  have kc := fun w => Lib.run_convert_string_bytes (P := Try.prog) w 9 55 5 l Try.underlying9 Try.underlying55 Try.underlying5
  have hz : l.data.toList.length = l.size := by show _ = l.data.size; simp
  go_enter Try.func45, Try.ntmps45
  go_upto_region 2 with (fail)
  obtain ⟨Bm, hI, hz1⟩ := BRow.made w 5 l
  generalize Lib.bytesWorld w 5 l = w1 at *
  generalize grownCap w l.size 0 5 = cap at *
  obtain ⟨g, hg⟩ : ∃ g, g = w.heap.size := ⟨_, rfl⟩
  rw [← hg] at hI hz1 Bm ⊢
  have HG := Lib.hid (Nat.le_of_eq hg.symm)
  rw [hg] at Bm
  clear kc hg
  go_wp2_with fail
  go_loopg [4, 9] (l.size + 1) (fun k v4 v9 wr => ∃ i : Nat, v9 = .int .i64 i ∧ i + k = l.size + 1 ∧ i ≤ l.size ∧ BRow.Is wr 5 g (part l.data.toList i) ∧ Below w.heap.size w wr)
  case atStart => exact ⟨0, rfl, by omega, by omega, by simpa [part] using hI, Bm⟩
  case round =>
    obtain ⟨i, rfl, hk1, hk2, HI, HB⟩ := hrel
    have HI' := Lib.hid HI
    have HB' := Lib.hid HB
    by_cases h : i < l.size
    · have q : decide ((i : Int) < l.size) = true := by simp; omega
      have hi : i < (part l.data.toList i).length := by rw [part_length]; omega
      have ci := HI.cell i hi
      have fi := HI.free i hi
      rw [part_get _ _ (by omega)] at ci
      have kf := fun w => foldc (l.data.toList.getD i 0) w
      have HS := HI.set i hi (lowB (l.data.toList.getD i 0))
      rw [part_set _ _ (by omega)] at HS
      have HS' := Lib.hid HS
      have hin : (0 : Int) ≤ (i : Int) ∧ (i : Int) < (l.size : Int) := by omega
      clear HI HB HS
      generalize l.data.toList.getD i 0 = x at *
      go_wp2_with (go_at_call 53; refine (kf _).mono ?_; rintro e w2 ⟨rfl, rfl⟩)
      go_roundg (l.size - i)
      case measure => omega
      case rel => exact ⟨i + 1, rfl, by omega, by omega, HS'.out, HB'.out.setCell HG.out _⟩
    · have q : decide ((i : Int) < l.size) = false := by simp; omega
      have ei : i = l.data.toList.length := by omega
      rw [ei, part_all] at HI
      have kb := BRow.Is.back (P := Try.prog) HI 55 9 cap l.size Try.underlying55 Try.underlying5 Try.underlying9 (by rw [List.length_map]; exact hz.symm)
      clear HI ei
      go_wp2_with fail
      go_ret
      exact ⟨rfl, HB'.out⟩
/-- Where the labels of a name begin, and its end. -/
structure Pl (s : ByteArray) (ps : List Nat) : Prop where
  first : ps.getD 0 0 = 0
  pos : 0 < ps.length
  len : ps.length ≤ 255
  next : ∀ j, j + 1 < ps.length → ps.getD (j + 1) 0 = ps.getD j 0 + 1 + (bt s (ps.getD j 0)).toNat ∧ bt s (ps.getD j 0) ≤ 63 ∧ ps.getD (j + 1) 0 < s.size
  last : ps.getD (ps.length - 1) 0 + 1 = s.size ∧ bt s (ps.getD (ps.length - 1) 0) = 0
theorem pl_at (s : ByteArray) : ∀ d i, s.size - i ≤ d → nameAt s i = true → (placesAt s i).getD 0 0 = i ∧ 0 < (placesAt s i).length ∧ (placesAt s i).length + i ≤ s.size ∧
    (∀ j, j + 1 < (placesAt s i).length → (placesAt s i).getD (j + 1) 0 = (placesAt s i).getD j 0 + 1 + (bt s ((placesAt s i).getD j 0)).toNat ∧ bt s ((placesAt s i).getD j 0) ≤ 63 ∧ (placesAt s i).getD (j + 1) 0 < s.size) ∧
    ((placesAt s i).getD ((placesAt s i).length - 1) 0 + 1 = s.size ∧ bt s ((placesAt s i).getD ((placesAt s i).length - 1) 0) = 0) := by
  intro d
  induction d with
  | zero => intro i hd h; rw [nameAt_out (by omega)] at h; cases h
  | succ d ih =>
    intro i hd h
    by_cases hi : i < s.size
    · by_cases h0 : bt s i = 0
      · rw [nameAt_end hi h0] at h
        have := of_decide_eq_true h
        rw [placesAt_end hi h0]
        exact ⟨rfl, by simp, by simp; omega, fun j hj => by simp at hj, by simpa using this, by simpa using h0⟩
      · by_cases h1 : bt s i ≤ 63
        · rw [nameAt_next hi h0 h1] at h
          obtain ⟨a, b, c, e, f1, f2⟩ := ih _ (by omega) h
          rw [placesAt_next hi h0 h1]
          generalize placesAt s (i + 1 + (bt s i).toNat) = r at *
          have hlt : i + 1 + (bt s i).toNat < s.size := by omega
          refine ⟨rfl, by simp, by simp; omega, fun j hj => ?_, ?_, ?_⟩
          · cases j with
            | zero => exact ⟨by simpa using a, by simpa using h1, by show r.getD 0 0 < s.size; rw [a]; exact hlt⟩
            | succ j => simpa using e j (by simpa using hj)
          · obtain ⟨n, hn⟩ : ∃ n, r.length = n + 1 := ⟨r.length - 1, by omega⟩
            rw [List.length_cons, hn]
            rw [hn] at f1
            simpa using f1
          · obtain ⟨n, hn⟩ : ∃ n, r.length = n + 1 := ⟨r.length - 1, by omega⟩
            rw [List.length_cons, hn]
            rw [hn] at f2
            simpa using f2
        · rw [nameAt_bad hi (by omega)] at h; cases h
    · rw [nameAt_out (by omega)] at h; cases h
theorem pl {s : ByteArray} (h : nameB s = true) : Pl s (places s) := by
  unfold nameB at h
  rw [Bool.and_eq_true, decide_eq_true_iff] at h
  obtain ⟨a, b, c, e, f⟩ := pl_at s s.size 0 (by omega) h.2
  exact ⟨a, b, by unfold places; omega, e, f⟩
theorem own_lower {w : World} {b b' : Nat} {e : TypeId} {size n : Nat} {v : Value} {xs : List Value} (h : w.ownsRow b e size v n xs) (hb : b' ≤ b) : w.ownsRow b' e size v n xs := by
  refine ⟨h.1, ?_⟩
  rcases h.2 with ⟨h1, h2⟩ | ⟨g, cap, cur, h1, h2, r⟩
  · exact .inl ⟨h1, h2⟩
  · exact .inr ⟨g, cap, cur, h1, Nat.le_trans hb h2, r⟩
/-- A name's labels. -/
def labs (s : ByteArray) (ps : List Nat) (n : Nat) : List ByteArray := (List.range n).map fun j => s.extract (ps.getD j 0 + 1) (ps.getD (j + 1) 0)
theorem labs_snoc (s : ByteArray) (ps : List Nat) (n : Nat) : labs s ps (n + 1) = labs s ps n ++ [s.extract (ps.getD n 0 + 1) (ps.getD (n + 1) 0)] := by
  unfold labs; rw [List.range_succ, List.map_append]; rfl
def scells (xs : List ByteArray) : List Value := xs.map fun (k : ByteArray) => .string k
theorem info_str : (Try.prog.info? 9).map (fun i => (i.zero, i.size, i.bytes)) = some (some (.string ⟨#[]⟩), 1, 16) := by kernel_rfl
def LabelsPost (s : ByteArray) (w : World) (e : Ending) (w' : World) : Prop :=
  Below w.heap.size w w' ∧ (nameB s = false → ∃ v, e = .returned (.tuple #[v, .bool false])) ∧
  (nameB s = true → ∃ v, e = .returned (.tuple #[v, .bool true]) ∧ w'.ownsRow w.heap.size 9 1 v ((places s).length - 1) (scells (labs s (places s) ((places s).length - 1))))
set_option maxHeartbeats 2000000 in
set_option maxRecDepth 100000 in
theorem labelsc (s : ByteArray) (w : World) : Calls Try.prog 42 #[.string s] w (LabelsPost s w) := by
  have kp := places_any s w
  by_cases hn : nameB s = true
  case neg =>
    have hf : nameB s = false := by simpa using hn
    go_enter Try.func42, Try.ntmps42
    go_wp2_with fail
    refine kp.mono ?_
    rintro e w1 ⟨v, rfl, hb, _⟩
    rw [hf]
    clear kp
    go_wp2_with fail
    go_ret2
    exact ⟨hb, fun _ => ⟨_, rfl⟩, fun h => by rw [hf] at h; cases h⟩
  have HP := Lib.hid (pl hn)
  have HN := Lib.hid hn
  go_enter Try.func42, Try.ntmps42
  go_wp2_with fail
  refine kp.mono ?_
  rintro e w1 ⟨v, rfl, hb, ho⟩
  rw [hn]
  have own := ho hn
  clear kp ho hn
  go_wp2_with fail
  obtain ⟨hlp, hll⟩ : 0 < (places s).length ∧ (places s).length ≤ 255 := ⟨HP.out.pos, HP.out.len⟩
  obtain ⟨pg, pc, hv, hpb⟩ : ∃ g c, v = .slice (some ⟨g, 0, none⟩) (places s).length c ∧ w.heap.size ≤ g := by
    rcases own.2 with ⟨_, h0⟩ | ⟨g, cap, cur, hv, hg, _⟩
    · omega
    · exact ⟨g, cap, hv, hg⟩
  subst hv
  have hcell : ∀ j, j < (places s).length → w1.cell? ⟨pg, j, none⟩ = some (.int .i64 ((places s).getD j 0 : Nat)) := fun j hj => by
    have := own.cells (g := pg) rfl j (.int .i64 ((places s).getD j 0 : Nat)) (by simp [pcells, List.getElem?_eq_getElem hj, List.getD_eq_getElem?_getD])
    rwa [show (⟨pg, 0, none⟩ : Addr).add j = ⟨pg, j, none⟩ by unfold Addr.add; split <;> simp_all] at this
  have hpl : (places s).length ≤ pc := by
    rcases own.2 with ⟨h0, _⟩ | ⟨g, cap, cur, hv, _, _, hc, _⟩
    · cases h0
    · injection hv with _ _ hc'; omega
  have hlt := own.lt pg rfl
  have HC := Lib.hid hcell
  clear hcell own
  go_loopg [6, 7] ((places s).length + 1) (fun k v6 v7 wr => ∃ i : Nat, v7 = .int .i64 ((i + 1 : Nat) : Int) ∧ i + k = (places s).length + 1 ∧ i < (places s).length ∧ wr.ownsRow w1.heap.size 9 1 v6 i (scells (labs s (places s) i)) ∧ Below w1.heap.size w1 wr)
  case atStart => exact ⟨0, rfl, by omega, by omega, World.ownsRow_nil _ _ _ _, Below.refl _ _⟩
  case round =>
    obtain ⟨i, rfl, hk, hil, HO, HB⟩ := hrel
    have HB' := Lib.hid HB
    by_cases h : i + 1 < (places s).length
    · obtain ⟨i1, hi1⟩ : ∃ i1 : Nat, i1 = i + 1 := ⟨_, rfl⟩
      have q : decide ((i1 : Int) < (places s).length) = true := by simp; omega
      have c0 : wr.cell? ⟨pg, i, none⟩ = _ := (HB.cell hlt.2).trans (HC.out i hil)
      have c1 : wr.cell? ⟨pg, i1, none⟩ = _ := (HB.cell hlt.2).trans (HC.out i1 (by omega))
      obtain ⟨n1, n2, n3⟩ := HP.out.next i h
      have hsn := labs_snoc s (places s) i
      rw [← hi1] at hsn n1 n3 ⊢
      generalize (places s).getD i 0 = x at *
      generalize (places s).getD i1 0 = y at *
      have nb := bt_nonneg s x
      have m1 : (0 : Int) ≤ (i : Int) := by omega
      have m2 : (i : Int) < ((places s).length : Int) := by omega
      have m3 : (0 : Int) ≤ (i1 : Int) := by omega
      have m4 : (i1 : Int) < ((places s).length : Int) := by omega
      have m5 : (0 : Int) ≤ (x : Int) + 1 := by omega
      have m6 : (x : Int) + 1 ≤ (y : Int) := by omega
      have m7 : (y : Int) ≤ (s.size : Int) := by omega
      have m8 : x + 1 ≤ y := by omega
      have m9 : y ≤ s.size := by omega
      have ag : u6.ownBlock ≠ some pg := fun e => by have := (HO.lt pg e).1; omega
      have hsz := HB.size
      have HSN := Lib.hid hsn
      have HI1 := Lib.hid hi1
      obtain ⟨i0, hi0, hz0, hz1, hz2⟩ := info_parts info_str
      have b1 : i ≤ 255 := by omega
      have b2 : y ≤ s.size := by omega
      have k63 : i + 1 ≤ maxLen := by unfold maxLen; omega
      have kby : (i + 1) * 16 ≤ 140737488355328 := by omega
      have kb1 : w1.heap.size ≤ wr.heap.size + 1 := by omega
      have kpg : pg < wr.heap.size + 1 := by omega
      have e1 : IntKind.i64.wrap ((i1 : Int) - 1) = (i : Int) := by rw [IntWalk.i64_in _ (by omega)]; omega
      have hs255 : s.size ≤ 255 := by have := HN.out; unfold nameB at this; rw [Bool.and_eq_true, decide_eq_true_iff] at this; exact this.1
      have e2 : IntKind.i64.wrap ((x : Int) + 1) = (x : Int) + 1 := IntWalk.i64_in _ (by omega)
      clear hs255 hsn HB n1 n2 n3 nb hi1 hlp hll hpb hpl hlt b1 b2 m8 m9
      go_wp2_with fail
      go_region_held3 (fun w' => w'.cell? ⟨pg, i, none⟩ = some (.int .i64 (x : Int)) ∧ w'.cell? ⟨pg, i1, none⟩ = some (.int .i64 (y : Int)))
        (first
          | go_keep
          | (go_split_ands
             refine ⟨?_, ?_⟩
             · (rw [hgrow.cell_far _ (by simp; exact kpg) (Ne.symm ag)]; assumption)
             · (rw [hgrow.cell_far _ (by simp; exact kpg) (Ne.symm ag)]; assumption)))
        ((refine step_append_lies _ (by rfl) _ _ _ (by rfl) w1.heap.size 9 i0 _ 1 16 Try.underlying23 hi0 hz0 hz1 hz2 rfl (Nat.lt_succ_self 0) u6 i _ (by rfl) ((HO.alloc _).drew)
            ⟨wr.heap.size, 0, none⟩ 1 1 [.string (s.extract (x + 1) y)] (by rfl) (by rfl) (World.news_of_block (cs := #[.string (s.extract (x + 1) y)]) (t := 9) (fr := (0, 0)) (heap_alloc_new wr _)) (by simp [Value.oneCell'])
            (Nat.lt_succ_self 0) k63 kby (by simp; exact kb1) (wr.heap.size + 1) (by simp) ?_; intro gg cap w2 hown1 hgrow hat hlt2))
      go_wp2_with fail
      go_roundg ((places s).length - i)
      case measure => omega
      case rel =>
        refine ⟨i + 1, congrArg (Value.int .i64) (by have := HI1.out; rw [w64 (by omega) (by omega)]; omega), by omega, by have := HI1.out; omega, ?_, ?_⟩
        · have hq := HSN.out
          rw [HI1.out] at hq
          rw [hq]
          simpa [scells] using hown1
        · exact (((HB'.out.drew).alloc hsz _).grown hgrow (by simp; omega) (fun k hk => (HO.lt k hk).1))
    · have q : decide (((i + 1 : Nat) : Int) < (places s).length) = false := by simp; omega
      go_wp2_with fail
      go_ret2
      refine ⟨hb.trans (HB'.out.mono hb.size), ?_, ?_⟩
      · intro hf
        rw [HN.out] at hf
        cases hf
      · intro _
        refine ⟨_, rfl, ?_⟩
        obtain rfl : i = (places s).length - 1 := by omega
        exact own_lower HO hb.size
theorem pre_step (s : ByteArray) (p q : Nat) (h1 : p + 1 ≤ q) (hq : q ≤ s.size) (x : UInt8) (hx : s.data.toList.getD p 0 = x) (hl : x.toNat ≤ 63) :
    (s.data.toList.take q).map lowB = ((s.data.toList.take p).map lowB ++ [x]) ++ (foldS (s.extract (p + 1) q)).data.toList := by
  have hsz : s.data.toList.length = s.size := by show _ = s.data.size; simp
  have hp : p < s.data.toList.length := by omega
  have ex : lowB x = x := if_neg (by omega)
  have e1 : (foldS (s.extract (p + 1) q)).data.toList = ((s.data.toList.drop (p + 1)).take (q - (p + 1))).map lowB := by
    unfold foldS
    simp [ByteArray.data_extract, List.take_drop]
  rw [e1]
  have e2 : s.data.toList.take q = s.data.toList.take p ++ [x] ++ (s.data.toList.drop (p + 1)).take (q - (p + 1)) := by
    have hx' : s.data.toList[p] = x := by rw [← hx, List.getD_eq_getElem?_getD, List.getElem?_eq_getElem hp]; rfl
    rw [← hx', List.append_assoc, List.singleton_append]
    conv => lhs; rw [show q = p + (1 + (q - (p + 1))) by omega]
    rw [List.take_add, List.drop_eq_getElem_cons hp, Nat.add_comm 1, List.take_succ_cons]
  rw [e2]
  simp [ex]
/-- rel.Fold: a name with small letters; the empty string for what is no name. -/
def foldN (s : ByteArray) : ByteArray := if nameB s = true then foldS s else ⟨#[]⟩
set_option maxHeartbeats 2000000 in
set_option maxRecDepth 100000 in
theorem foldNc (s : ByteArray) (w : World) : Calls Try.prog 27 #[.string s] w fun e w' => e = .returned (.string (foldN s)) ∧ Below w.heap.size w w' := by
  have kl := labelsc s w
  by_cases hn : nameB s = true
  case neg =>
    have hf : nameB s = false := by simpa using hn
    go_enter Try.func27, Try.ntmps27
    go_wp2_with fail
    refine kl.mono ?_
    rintro e w1 ⟨hb, h1, _⟩
    obtain ⟨v, rfl⟩ := h1 hf
    clear kl
    go_wp2_with fail
    go_ret
    exact ⟨by unfold foldN; rw [if_neg hn]; rfl, hb⟩
  have HP := Lib.hid (pl hn)
  have HN := Lib.hid hn
  go_enter Try.func27, Try.ntmps27
  go_wp2_with fail
  refine kl.mono ?_
  rintro e w1 ⟨hb, _, h2⟩
  obtain ⟨v, rfl, own⟩ := h2 hn
  clear kl h2 hn
  obtain ⟨hlp, hll⟩ : 0 < (places s).length ∧ (places s).length ≤ 255 := ⟨HP.out.pos, HP.out.len⟩
  obtain ⟨n, hpn⟩ : ∃ n, (places s).length = n + 1 := ⟨(places s).length - 1, by omega⟩
  rw [hpn, Nat.add_sub_cancel] at own
  have hn255 : n ≤ 255 := by omega
  have hs255 : s.size ≤ 255 := by have := HN.out; unfold nameB at this; rw [Bool.and_eq_true, decide_eq_true_iff] at this; exact this.1
  obtain ⟨A, c, rfl, hA⟩ : ∃ A c, v = .slice A n c ∧ (n = 0 ∨ n ≤ c ∧ ∃ g, A = some ⟨g, 0, none⟩ ∧ g < w1.heap.size ∧ ∀ j, j < n → w1.cell? ⟨g, j, none⟩ = some (.string (s.extract ((places s).getD j 0 + 1) ((places s).getD (j + 1) 0)))) := by
    rcases own.2 with ⟨hv, h0⟩ | ⟨g, cap, cur, hv, r1, r2, r3, _⟩
    · exact ⟨none, 0, by rw [h0]; exact hv, .inl h0⟩
    · refine ⟨_, _, hv, .inr ⟨r3, g, rfl, (own.lt g (by rw [hv]; rfl)).2, fun j hj => ?_⟩⟩
      have := own.cells (g := g) (by rw [hv]; rfl) j (.string (s.extract ((places s).getD j 0 + 1) ((places s).getD (j + 1) 0))) (by simp [scells, labs, hj])
      rwa [show (⟨g, 0, none⟩ : Addr).add j = ⟨g, j, none⟩ by unfold Addr.add; split <;> simp_all] at this
  clear own
  go_upto_region 5 with (fail)
  have HA := Lib.hid hA
  have HPN := Lib.hid hpn
  clear hA hpn hlp
  have B2 : Below w1.heap.size w1 (w1.alloc (.cells #[.pointer none, .slice none 0 0] 73)) := (Below.refl _ _).alloc (Nat.le_refl _) _
  have IB := Bld.fresh w1
  generalize w1.alloc (.cells #[.pointer none, .slice none 0 0] 73) = w2 at *
  have hsb := hb.size
  obtain ⟨gB, hgB⟩ : ∃ g, g = w1.heap.size := ⟨_, rfl⟩
  rw [show Bld.Is w2 w1.heap.size w1.heap.size [] = Bld.Is w2 w1.heap.size gB [] by rw [hgB]] at IB
  rw [← hgB]
  clear hgB
  go_wp2_with fail
  go_loopg [7, 17] (n + 1) (fun k v7 v17 wr => ∃ i : Nat, v17 = .int .i64 (i : Int) ∧ i + k = n + 1 ∧ i ≤ n ∧ Bld.Is wr w1.heap.size gB ((s.data.toList.take ((places s).getD i 0)).map lowB) ∧ Below w1.heap.size w1 wr)
  case atStart => exact ⟨0, rfl, by omega, by omega, by rw [HP.out.first]; exact IB, B2⟩
  case round =>
    obtain ⟨i, rfl, hk, hil, HI, HB⟩ := hrel
    have HB' := Lib.hid HB
    have HI' := Lib.hid HI
    clear HI
    by_cases h : i < n
    · have q : decide ((i : Int) < (n : Int)) = true := by simp; omega
      obtain ⟨hnc, g, rfl, hg, hcell⟩ : n ≤ c ∧ ∃ g, A = some ⟨g, 0, none⟩ ∧ g < w1.heap.size ∧ ∀ j, j < n → w1.cell? ⟨g, j, none⟩ = some (.string (s.extract ((places s).getD j 0 + 1) ((places s).getD (j + 1) 0))) := by
        rcases HA.out with h0 | h1
        · omega
        · exact h1
      have c0 : wr.cell? ⟨g, i, none⟩ = _ := (HB.cell hg).trans (hcell i h)
      have hpn := HPN.out
      obtain ⟨n1, n2, n3⟩ := HP.out.next i (by omega)
      clear hcell hpn
      generalize (places s).getD i 0 = x at *
      generalize hy : (places s).getD (i + 1) 0 = y at *
      have nb := bt_nonneg s x
      have bd := bt_data s x
      obtain ⟨u, hu⟩ : ∃ u, s.data.toList.getD x 0 = u := ⟨_, rfl⟩
      rw [hu] at bd
      have hu63 : u.toNat ≤ 63 := by omega
      have HST := Lib.hid (pre_step s x y (by omega) (by omega) u hu hu63)
      have hls : (s.extract (x + 1) y).size = u.toNat := by rw [ByteArray.size_extract]; omega
      generalize s.extract (x + 1) y = l at *
      have kf := foldedc l (by omega)
      have e1 : IntKind.u8.wrap (l.size : Int) = (u.toNat : Int) := by rw [hls]; show ((u.toNat : Int) % 256) = _; omega
      have hlen : ((s.data.toList.take x).map lowB).length ≤ 255 := by rw [List.length_map, List.length_take]; omega
      have m1 : (0 : Int) ≤ (i : Int) := by omega
      have HX := Lib.hid hlen
      have HL := Lib.hid hls
      have HU := Lib.hid hu63
      have HY := Lib.hid hy
      have hBr := HB.size
      clear n1 n2 n3 nb bd hu hu63 hlen hls hy HB
      go_wp2_with fail
      refine (Bld.bytec w1.heap.size gB _ u wr HI'.out (by have := HX.out; omega) hBr).mono ?_
      rintro e w3 ⟨rfl, I3, B3⟩
      have B3' := HB'.out.trans B3
      have I3' := Lib.hid I3
      clear I3
      go_wp2_with fail
      refine (kf _).mono ?_
      rintro e w4 ⟨rfl, b4⟩
      have B4 := B3'.trans (b4.mono B3'.size)
      have I4 := Lib.hid (I3'.out.below b4)
      have hB4 := B4.size
      clear b4
      go_wp2_with fail
      refine (Bld.stringc w1.heap.size gB _ (foldS l) w4 I4.out (by have h1 := HX.out; have h2 := HL.out; have h3 := HU.out; rw [foldS_size, List.length_append]; simp only [List.length_cons, List.length_nil]; omega) hB4).mono ?_
      rintro e w5 ⟨rfl, I5, B5⟩
      have B5' := B4.trans B5
      have I5' := Lib.hid I5
      clear I5 B5 B3 B3' B4
      go_wp2_with fail
      go_roundg (n - i)
      case measure => omega
      case rel =>
        refine ⟨i + 1, by first | rfl | exact congrArg (Value.int .i64) (by rw [w64 (by omega) (by omega)]; omega), by omega, by omega, ?_, B5'⟩
        rw [HY.out, HST.out]
        exact I5'.out
    · have q : decide ((i : Int) < (n : Int)) = false := by simp; omega
      obtain rfl : i = n := by omega
      have hlen : ((s.data.toList.take ((places s).getD i 0)).map lowB).length ≤ 255 := by rw [List.length_map, List.length_take, len_data]; omega
      have hBr := HB.size
      have HX := Lib.hid hlen
      clear hlen HB
      go_wp2_with fail
      refine (Bld.stringc w1.heap.size gB _ ⟨#[0]⟩ wr HI'.out (by have h1 := HX.out; show _ + 1 ≤ _; omega) hBr).mono ?_
      rintro e w5 ⟨rfl, I5, B5⟩
      have B5' := HB'.out.trans B5
      have I5' := Lib.hid I5
      have e1 : ((s.data.toList.take ((places s).getD i 0)).map lowB) ++ (⟨#[0]⟩ : ByteArray).data.toList = s.data.toList.map lowB := by
        obtain ⟨a1, a2⟩ := HP.out.last
        rw [HPN.out, Nat.add_sub_cancel] at a1 a2
        generalize (places s).getD i 0 = x at *
        have hz := len_data s
        have hx : x < s.data.toList.length := by omega
        have bd := bt_data s x
        rw [a2, List.getD_eq_getElem?_getD, List.getElem?_eq_getElem hx] at bd
        have hu : s.data.toList[x] = 0 := by
          apply UInt8.toNat_inj.1
          have : ((s.data.toList[x]).toNat : Int) = 0 := bd.symm
          simpa using this
        have e2 : s.data.toList = s.data.toList.take x ++ [0] := by
          conv => lhs; rw [← List.take_append_drop x s.data.toList, List.drop_eq_getElem_cons hx, hu, List.drop_eq_nil_of_le (by omega)]
        conv => rhs; rw [e2]
        rw [List.map_append]
        rfl
      have kst : Calls Try.prog 46 #[.pointer (some ⟨gB, 0, none⟩)] w5 fun e w' => e = .returned (.string (foldN s)) ∧ Below w1.heap.size w5 w' := by
        have hI := I5'.out
        rw [e1] at hI
        have := Bld.strc w1.heap.size gB _ w5 hI B5'.size
        unfold foldN
        rw [if_pos HN.out]
        exact this
      clear I5 B5 e1
      go_wp2_with fail
      refine kst.mono ?_
      rintro e w6 ⟨rfl, B6⟩
      have B6' := B5'.trans B6
      clear B6 kst
      go_wp2_with fail
      go_ret
      exact ⟨rfl, hb.trans (B6'.mono hb.size)⟩
end Go.Proofs.Ythlajjcdmhgcmaa.Fo

namespace Go.Proofs.Ythlajjcdmhgcmaa.Gr
open Go.RowKit Go.PlainAid Go.Proofs.Ythlajjcdmhgcmaa.Base Go.Proofs.Ythlajjcdmhgcmaa.Nm
open Go.Proofs.YthlajjcdmhgcmaaW.PrintWords (blk_cell blk_below blk_new blk_lt)
set_option linter.unusedVariables false
set_option linter.unusedSimpArgs false
structure Rr where
  name : ByteArray
  type : Int
  cls : Int
  ttl : Int
  data : ByteArray
def zR : Rr := ⟨⟨#[]⟩, 0, 0, 0, ⟨#[]⟩⟩
/-- A record lies at a place. -/
structure AtR (w : World) (p : Addr) (r : Rr) : Prop where
  c0 : w.cell? p = some (.string r.name)
  c1 : w.cell? ⟨p.block, p.off + 1, none⟩ = some (.int .i64 r.type)
  c2 : w.cell? ⟨p.block, p.off + 2, none⟩ = some (.int .i64 r.cls)
  c3 : w.cell? ⟨p.block, p.off + 3, none⟩ = some (.int .i64 r.ttl)
  c4 : w.cell? ⟨p.block, p.off + 4, none⟩ = some (.string r.data)
theorem AtR.below {w w' : World} {p : Addr} {r : Rr} (h : AtR w p r) (hb : Below w.heap.size w w') : AtR w' p r := ⟨bcell hb h.c0, bcell hb h.c1, bcell hb h.c2, bcell hb h.c3, bcell hb h.c4⟩
def RCells (w : World) (A : Option Addr) (rs : List Rr) : Prop := rs.length = 0 ∨ ∃ ad, A = some ad ∧ ∀ j, j < rs.length → AtR w (ad.add (j * 5)) (rs.getD j zR)
theorem RCells.below {w w' : World} {A : Option Addr} {rs : List Rr} (h : RCells w A rs) (hb : Below w.heap.size w w') : RCells w' A rs := by
  rcases h with h | ⟨ad, e, h⟩
  · exact .inl h
  · exact .inr ⟨ad, e, fun j hj => (h j hj).below hb⟩
/-- May a record be grouped? -/
def okG (r : Rr) : Bool := nameB r.name && decide (0 ≤ r.ttl) && decide (r.ttl ≤ 4294967295) && Rd.mayD r.type r.data
end Go.Proofs.Ythlajjcdmhgcmaa.Gr

namespace Go.Proofs.Ythlajjcdmhgcmaa.Gr
open Go.RowKit Go.PlainAid Go.Proofs.Ythlajjcdmhgcmaa.Base Go.Proofs.Ythlajjcdmhgcmaa.Mk
open Go.Proofs.Ythlajjcdmhgcmaa.Fo (foldN)
set_option linter.unusedVariables false
theorem find_none {k : Key} : ∀ {es : List Ent} {j : Nat}, findE k es j = none → ∀ e ∈ es, e.key ≠ k
  | [], _, _, e, he => by simp at he
  | x :: es, j, h, e, he => by
    unfold findE at h
    split at h
    · cases h
    · rename_i hx
      rcases List.mem_cons.1 he with rfl | he
      · intro q; exact hx ((sameK_iff _ _).2 q.symm)
      · exact find_none h e he
theorem find_some {k : Key} : ∀ {es : List Ent} {j : Nat} {r : Nat × Value}, findE k es j = some r → ∃ (i : Nat) (e : Ent), es[i]? = some e ∧ e.key = k ∧ r = (j + i, .int .i64 e.val)
  | [], _, _, h => by simp [findE] at h
  | x :: es, j, r, h => by
    unfold findE at h
    split at h
    · rename_i hx
      exact ⟨0, x, rfl, ((sameK_iff _ _).1 hx).symm, (Option.some.inj h).symm⟩
    · obtain ⟨i, e, h1, h2, h3⟩ := find_some h
      exact ⟨i + 1, e, by simpa using h1, h2, by rw [h3]; congr 1; omega⟩
/-- The map tells of each set its place. -/
structure Told (ss : List SV) (es : List Ent) : Prop where
  len : es.length = ss.length
  at_ : ∀ (i : Nat) (e : Ent) (s : SV), es[i]? = some e → ss[i]? = some s → e.key = (s.name, s.type) ∧ e.val = (i : Int)
  uniq : ∀ (i j : Nat) (s t : SV), ss[i]? = some s → ss[j]? = some t → (s.name, s.type) = (t.name, t.type) → i = j
theorem Told.nil : Told [] [] := ⟨rfl, fun i e s h => by simp at h, fun i j s t h => by simp at h⟩
theorem Told.add {ss : List SV} {es : List Ent} (h : Told ss es) {s : SV} {c : Nat} (hm : ∀ t ∈ ss, (t.name, t.type) ≠ (s.name, s.type)) : Told (ss ++ [s]) (es ++ [(⟨(s.name, s.type), (ss.length : Int), c⟩ : Ent)]) := by
  have at1 : ∀ (j : Nat) (t : SV), (ss ++ [s])[j]? = some t → (ss[j]? = some t ∧ t ∈ ss) ∨ (j = ss.length ∧ t = s) := by
    intro j t hj
    by_cases hl : j < ss.length
    · rw [List.getElem?_append_left hl] at hj; exact .inl ⟨hj, List.mem_of_getElem? hj⟩
    · rw [List.getElem?_append_right (by omega)] at hj
      obtain ⟨hq, _⟩ := List.getElem?_eq_some_iff.1 hj
      have : j = ss.length := by simp at hq; omega
      subst this
      rw [Nat.sub_self] at hj
      exact .inr ⟨rfl, (Option.some.inj hj).symm⟩
  refine ⟨by simp [h.len], ?_, ?_⟩
  · intro i e t he ht
    rcases at1 i t ht with ⟨h1, _⟩ | ⟨rfl, rfl⟩
    · obtain ⟨hl, _⟩ := List.getElem?_eq_some_iff.1 h1
      rw [List.getElem?_append_left (by rw [h.len]; exact hl)] at he
      exact h.at_ i e t he h1
    · rw [List.getElem?_append_right (by rw [h.len]; exact Nat.le_refl _), h.len, Nat.sub_self] at he
      obtain rfl := Option.some.inj he
      exact ⟨rfl, rfl⟩
  · intro i j a b ha hb hab
    rcases at1 i a ha with ⟨h1, m1⟩ | ⟨e1, rfl⟩ <;> rcases at1 j b hb with ⟨h2, m2⟩ | ⟨e2, rfl⟩
    · exact h.uniq i j a b h1 h2 hab
    · exact absurd hab (hm a m1)
    · exact absurd hab.symm (hm b m2)
    · rw [e1, e2]
theorem Told.set {ss : List SV} {es : List Ent} (h : Told ss es) {i : Nat} {s s' : SV} (hi : ss[i]? = some s) (hk : (s'.name, s'.type) = (s.name, s.type)) : Told (ss.set i s') es := by
  refine ⟨by rw [List.length_set]; exact h.len, ?_, ?_⟩
  · intro j e t he ht
    rcases set_at ht with ⟨rfl, rfl⟩ | ⟨_, h2⟩
    · rw [hk]; exact h.at_ j e s he hi
    · exact h.at_ j e t he h2
  · intro a b x y hx hy hxy
    rcases set_at hx with ⟨rfl, rfl⟩ | ⟨_, h1⟩ <;> rcases set_at hy with ⟨e2, rfl⟩ | ⟨_, h2⟩
    · exact e2.symm
    · exact h.uniq _ _ _ _ hi h2 (hk ▸ hxy)
    · rw [e2]; exact h.uniq _ _ _ _ h1 hi (hxy.trans hk)
    · exact h.uniq _ _ _ _ h1 h2 hxy
theorem Told.look {ss : List SV} {es : List Ent} (h : Told ss es) {k : Key} {r : Nat × Value} (hf : findE k es 0 = some r) : ∃ (i : Nat) (s : SV), ss[i]? = some s ∧ (s.name, s.type) = k ∧ r.2 = .int .i64 (i : Int) := by
  obtain ⟨i, e, h1, h2, h3⟩ := find_some hf
  obtain ⟨hl, _⟩ := List.getElem?_eq_some_iff.1 h1
  have hs : ss[i]? = some (ss[i]'(by rw [← h.len]; exact hl)) := List.getElem?_eq_getElem _
  obtain ⟨a, b⟩ := h.at_ i e _ h1 hs
  exact ⟨i, _, hs, a.symm.trans h2, by rw [h3, b]⟩
theorem Told.miss {ss : List SV} {es : List Ent} (h : Told ss es) {k : Key} (hf : findE k es 0 = none) : ∀ s ∈ ss, (s.name, s.type) ≠ k := by
  intro s hs q
  obtain ⟨i, hi⟩ := mem_at hs
  obtain ⟨hl, _⟩ := List.getElem?_eq_some_iff.1 hi
  have he : es[i]? = some (es[i]'(by rw [h.len]; exact hl)) := List.getElem?_eq_getElem _
  obtain ⟨a, _⟩ := h.at_ i _ s he hi
  exact find_none hf _ (List.mem_of_getElem? he) (a.trans q)
/-- A set as it is told, without its memory. -/
structure SP where
  name : ByteArray
  type : Int
  ttl : Int
  datas : List ByteArray
def SV.p (s : SV) : SP := ⟨s.name, s.type, s.ttl, s.datas⟩
/-- A record is put into its set, which is made if it is not there. -/
def putIn (n : ByteArray) (t l : Int) (d : ByteArray) : List SP → List SP
  | [] => [⟨n, t, min 86400 l, [d]⟩]
  | s :: ss => if s.name = n ∧ s.type = t then ⟨s.name, s.type, min s.ttl l, s.datas ++ [d]⟩ :: ss else s :: putIn n t l d ss
def stepG (ss : List SP) (r : Rr) : List SP := if r.cls = 1 then putIn (foldN r.name) r.type r.ttl r.data ss else ss
theorem putIn_at : ∀ (ss : List SP) (i : Nat) (s : SP) (n : ByteArray) (t l : Int) (d : ByteArray), ss[i]? = some s → s.name = n → s.type = t → (∀ j s', j < i → ss[j]? = some s' → ¬ (s'.name = n ∧ s'.type = t)) →
    putIn n t l d ss = ss.set i ⟨s.name, s.type, min s.ttl l, s.datas ++ [d]⟩
  | [], i, s, n, t, l, d, h, _, _, _ => by simp at h
  | x :: ss, 0, s, n, t, l, d, h, h1, h2, _ => by
    obtain rfl : x = s := by simpa using h
    unfold putIn
    rw [if_pos ⟨h1, h2⟩, List.set_cons_zero]
  | x :: ss, i + 1, s, n, t, l, d, h, h1, h2, h3 => by
    unfold putIn
    rw [if_neg (h3 0 x (by omega) rfl), List.set_cons_succ, putIn_at ss i s n t l d (by simpa using h) h1 h2 (fun j s' hj hs => h3 (j + 1) s' (by omega) (by simpa using hs))]
theorem putIn_new : ∀ (ss : List SP) (n : ByteArray) (t l : Int) (d : ByteArray), (∀ s ∈ ss, ¬ (s.name = n ∧ s.type = t)) → putIn n t l d ss = ss ++ [⟨n, t, min 86400 l, [d]⟩]
  | [], n, t, l, d, _ => rfl
  | x :: ss, n, t, l, d, h => by
    unfold putIn
    rw [if_neg (h x (List.mem_cons_self ..)), putIn_new ss n t l d (fun s hs => h s (List.mem_cons_of_mem _ hs)), List.cons_append]
/-- What the walk does to a set is what a record put in does. -/
theorem put_told {ss ss2 : List SV} {es2 : List Ent} {i : Nat} {s : SV} {n : ByteArray} {t l : Int} {d : ByteArray} {dv z : Value} (hT : Told ss2 es2) (hi : ss2[i]? = some s) (hk : (s.name, s.type) = (n, t))
    (hw : ss2 = ss ∨ ss2 = ss ++ [⟨n, t, 86400, z, []⟩] ∧ ∀ t' ∈ ss, (t'.name, t'.type) ≠ (n, t)) :
    (ss2.set i ⟨s.name, s.type, min s.ttl l, dv, s.datas ++ [d]⟩).map SV.p = putIn n t l d (ss.map SV.p) := by
  have h1 : s.name = n := congrArg Prod.fst hk
  have h2 : s.type = t := congrArg Prod.snd hk
  rcases hw with rfl | ⟨rfl, hm⟩
  · rw [putIn_at (ss2.map SV.p) i s.p n t l d (by simp [hi]) h1 h2 ?_, List.map_set]; rfl
    intro j s' hj hs q
    rw [List.getElem?_map] at hs
    obtain ⟨s2, h3, rfl⟩ := Option.map_eq_some_iff.1 hs
    have := hT.uniq j i s2 s h3 hi (by rw [hk]; exact Prod.ext q.1 q.2)
    omega
  · have hn : (ss ++ [(⟨n, t, 86400, z, []⟩ : SV)])[ss.length]? = some ⟨n, t, 86400, z, []⟩ := by rw [List.getElem?_append_right (Nat.le_refl _), Nat.sub_self]; rfl
    obtain rfl := hT.uniq i ss.length s _ hi hn hk
    obtain rfl := Option.some.inj (hi.symm.trans hn)
    rw [List.set_append_right _ _ (Nat.le_refl _), Nat.sub_self, List.map_append, putIn_new _ n t l d ?_]
    · rfl
    · intro s' hs q
      obtain ⟨s2, h3, rfl⟩ := List.mem_map.1 hs
      exact hm s2 h3 (Prod.ext q.1 q.2)
/-- What sets.Group answers before the data are sorted; none: an error. -/
def gather (l : List Rr) : Option (List SP) := if l.length ≤ 64 ∧ l.all okG = true then some (l.foldl stepG []) else none
end Go.Proofs.Ythlajjcdmhgcmaa.Gr

namespace Go.Proofs
open Go.Shelf
def Try.lays190_ren : Go.Shelf.Ren := ⟨fun | 190 => 28 | 125 => 48 | 258 => 47 | 128 => 63 | 129 => 64 | 302 => 54 | 303 => 55 | 304 => 56 | 305 => 57 | 306 => 58 | 307 => 59 | 308 => 60 | 309 => 61 | 310 => 62 | 333 => 66 | 329 => 67 | 330 => 68 | 334 => 69 | 335 => 70 | 336 => 71 | 344 => 72 | n => n, fun | 31 => 23 | 9 => 9 | 3 => 3 | 46 => 47 | 0 => 0 | 51 => 94 | 53 => 96 | 4 => 4 | 183 => 88 | 182 => 87 | 131 => 62 | 5 => 5 | 218 => 99 | 222 => 103 | 228 => 105 | 229 => 106 | n => n, fun | n => n⟩
theorem Try.lays190 : Go.Proofs.Lays.n190 Try.prog Try.lays190_ren := {
  mixed := by kernel_rfl
  f125 := Try.func48.trans (congrArg some (by kernel_rfl))
  f128 := Try.func63.trans (congrArg some (by kernel_rfl))
  f129 := Try.func64.trans (congrArg some (by kernel_rfl))
  f190 := Try.func28.trans (congrArg some (by kernel_rfl))
  f258 := Try.func47.trans (congrArg some (by kernel_rfl))
  f302 := Try.func54.trans (congrArg some (by kernel_rfl))
  f303 := Try.func55.trans (congrArg some (by kernel_rfl))
  f304 := Try.func56.trans (congrArg some (by kernel_rfl))
  f305 := Try.func57.trans (congrArg some (by kernel_rfl))
  f306 := Try.func58.trans (congrArg some (by kernel_rfl))
  f307 := Try.func59.trans (congrArg some (by kernel_rfl))
  f308 := Try.func60.trans (congrArg some (by kernel_rfl))
  f309 := Try.func61.trans (congrArg some (by kernel_rfl))
  f310 := Try.func62.trans (congrArg some (by kernel_rfl))
  f329 := Try.func67.trans (congrArg some (by kernel_rfl))
  f330 := Try.func68.trans (congrArg some (by kernel_rfl))
  f333 := Try.func66.trans (congrArg some (by kernel_rfl))
  f334 := Try.func69.trans (congrArg some (by kernel_rfl))
  f335 := Try.func70.trans (congrArg some (by kernel_rfl))
  f336 := Try.func71.trans (congrArg some (by kernel_rfl))
  f344 := Try.func72.trans (congrArg some (by kernel_rfl))
  t0 := Try.underlying0
  a0 := Try.isAgg0
  z0 := Try.sizeOf0
  v0 := Try.zeroValue0
  t3 := Try.underlying3
  a3 := Try.isAgg3
  z3 := Try.sizeOf3
  v3 := Try.zeroValue3
  t4 := Try.underlying4
  a4 := Try.isAgg4
  z4 := Try.sizeOf4
  v4 := Try.zeroValue4
  t5 := Try.underlying5
  a5 := Try.isAgg5
  z5 := Try.sizeOf5
  v5 := Try.zeroValue5
  t9 := Try.underlying9
  a9 := Try.isAgg9
  z9 := Try.sizeOf9
  v9 := Try.zeroValue9
  t31 := Try.underlying23
  a31 := Try.isAgg23
  z31 := Try.sizeOf23
  v31 := Try.zeroValue23
  t46 := Try.underlying47
  a46 := Try.isAgg47
  z46 := Try.sizeOf47
  v46 := Try.zeroValue47
  t51 := Try.underlying94
  a51 := Try.isAgg94
  z51 := Try.sizeOf94
  v51 := Try.zeroValue94
  t53 := Try.underlying96
  a53 := Try.isAgg96
  z53 := Try.sizeOf96
  v53 := Try.zeroValue96
  t131 := Try.underlying62
  a131 := Try.isAgg62
  z131 := Try.sizeOf62
  v131 := Try.zeroValue62
  t182 := Try.underlying87
  a182 := Try.isAgg87
  z182 := Try.sizeOf87
  v182 := Try.zeroValue87
  t183 := Try.underlying88
  a183 := Try.isAgg88
  z183 := Try.sizeOf88
  v183 := Try.zeroValue88
  t218 := Try.underlying99
  a218 := Try.isAgg99
  z218 := Try.sizeOf99
  v218 := Try.zeroValue99
  t222 := Try.underlying103
  a222 := Try.isAgg103
  z222 := Try.sizeOf103
  v222 := Try.zeroValue103
  t228 := Try.underlying105
  a228 := Try.isAgg105
  z228 := Try.sizeOf105
  v228 := Try.zeroValue105
  t229 := Try.underlying106
  a229 := Try.isAgg106
  z229 := Try.sizeOf106
  v229 := Try.zeroValue106 }
open Go.Sort Go.RowKit in
theorem Try.slices_Sort_string (blk off cap : Nat) (ss : List (List UInt8)) (w : World) (hH : Holds encStr w blk off ss.toArray) (hblk : blk < w.heap.size) (hsz : ss.length < 4611686018427387904) :
    Calls Try.prog 28 #[.slice (some ⟨blk, off, none⟩) ss.length cap] w fun e w' =>
      e = .returned (.tuple #[]) ∧ ∃ n os, w' = grow (putRow encStr (Sort.ahead w n) blk off (ss.mergeSort fun x y => decide (x ≤ y)).toArray) os := Any.slices_Sort_string Try.lays190 blk off cap ss w hH hblk hsz
def Try.lays194_ren : Go.Shelf.Ren := ⟨fun | 194 => 29 | n => n, fun | 31 => 23 | 9 => 9 | 3 => 3 | 4 => 4 | 0 => 0 | n => n, fun | n => n⟩
theorem Try.lays194 : Go.Proofs.Lays.n194 Try.prog Try.lays194_ren := {
  mixed := by kernel_rfl
  f194 := Try.func29.trans (congrArg some (by kernel_rfl))
  t0 := Try.underlying0
  a0 := Try.isAgg0
  z0 := Try.sizeOf0
  v0 := Try.zeroValue0
  t3 := Try.underlying3
  a3 := Try.isAgg3
  z3 := Try.sizeOf3
  v3 := Try.zeroValue3
  t4 := Try.underlying4
  a4 := Try.isAgg4
  z4 := Try.sizeOf4
  v4 := Try.zeroValue4
  t9 := Try.underlying9
  a9 := Try.isAgg9
  z9 := Try.sizeOf9
  v9 := Try.zeroValue9
  t31 := Try.underlying23
  a31 := Try.isAgg23
  z31 := Try.sizeOf23
  v31 := Try.zeroValue23 }
open Go.RowKit Go.Lib Go.Sort in
/-- slices.Compact at []string: "Compact replaces consecutive runs of equal elements with a single copy. This is like the uniq command found on Unix. Compact modifies the contents of the slice s and returns the modified slice, which may have a smaller length. Compact zeroes the elements between the new length and the original length. The result preserves the nilness of s.": IT RETURNS THE SLICE CUT TO 'Lib.compact zs'; ITS CELLS HOLD 'Lib.compact zs', THEN ZERO VALUES up to the old length; all else is as it was, but for the count of draws. IN THE WORDS OF slices.Sort's CONTRACT ('Holds', 'putRow'): so the everyday 'slices.Sort(xs); xs = slices.Compact(xs)' goes from the one contract to the other. It asks 'zs.length ≤ cap' (every slice's: the reslicing 's[:k]' looks at it). Length 0, nil: '.._empty'. (LAID: no walk: one application.) -/
theorem Try.slices_Compact_string (blk off cap : Nat) (zs : List (List UInt8)) (w : World) (hH : Holds encStr w blk off zs.toArray) (hsz : zs.length ≤ 9223372036854775807) (hcap : zs.length ≤ cap) :
    Calls Try.prog 29 #[.slice (some ⟨blk, off, none⟩) zs.length cap] w fun e w' => e = .returned (.slice (some ⟨blk, off, none⟩) (Lib.compact zs).length cap) ∧ ∃ q, w' = putRow encStr (Sort.ahead w q) blk off (Lib.compact zs ++ List.replicate (zs.length - (Lib.compact zs).length) []).toArray := Any.slices_Compact_string Try.lays194 blk off cap zs w hH hsz hcap
open Go.RowKit Go.Lib Go.Sort in
/-- The same at a slice of length 0, a nil one too: it comes back as it is. (LAID: no walk: one application.) -/
theorem Try.slices_Compact_string_empty (a : Option Addr) (cap : Nat) (w : World) :
    Calls Try.prog 29 #[.slice a 0 cap] w fun e w' => e = .returned (.slice a 0 cap) ∧ w' = w := Any.slices_Compact_string_empty Try.lays194 a cap w
open Go.RowKit Go.Sort in
/-- .. and plain. (LAID: no walk: one application.) -/
theorem Try.slices_Sort_string_none (p : Option Addr) (cap : Nat) (w : World) :
    Calls Try.prog 28 #[.slice p 0 cap] w fun e w' => e = .returned (.tuple #[]) ∧ w' = w := Any.slices_Sort_string_none Try.lays190 p cap w
end Go.Proofs

namespace Go.Proofs.Ythlajjcdmhgcmaa.Gr
open Go.RowKit Go.PlainAid Go.Proofs.Ythlajjcdmhgcmaa.Base
open Go.Proofs.YthlajjcdmhgcmaaW.PrintWords (blk_lt)
set_option linter.unusedVariables false
def bl (d : ByteArray) : List UInt8 := d.data.toList
def lb (l : List UInt8) : ByteArray := ⟨l.toArray⟩
theorem lb_bl (d : ByteArray) : lb (bl d) = d := by unfold lb bl; simp
theorem bl_lb (l : List UInt8) : bl (lb l) = l := by unfold lb bl; simp
def sortL (l : List (List UInt8)) : List (List UInt8) := l.mergeSort fun x y => decide (x ≤ y)
def sortD (ds : List ByteArray) : List ByteArray := (sortL (ds.map bl)).map lb
def compD (ds : List ByteArray) : List ByteArray := (Lib.compact (ds.map bl)).map lb
def normD (ds : List ByteArray) : List ByteArray := compD (sortD ds)
theorem map_lb (l : List (List UInt8)) : (l.map lb).map Value.string = l.map encStr := by
  rw [List.map_map]; rfl
theorem map_lb_bl (l : List (List UInt8)) : (l.map lb).map bl = l := by
  rw [List.map_map]
  have : (bl ∘ lb) = id := funext bl_lb
  rw [this, List.map_id]
theorem map_bl (l : List ByteArray) : (l.map bl).map encStr = l.map Value.string := Lib.map_encStr l
theorem sortc {W : World} {base : Nat} {dv : Value} {ds : List ByteArray} (h : W.ownsRow base 9 1 dv ds.length (ds.map Value.string)) (hl : ds.length ≤ 1000000) :
    Calls Try.prog 28 #[dv] W fun e w' => e = .returned (.tuple #[]) ∧ w'.ownsRow base 9 1 dv (sortD ds).length ((sortD ds).map Value.string) ∧ W.grownBy w' dv.ownBlock := by
  have hlen : (sortD ds).length = ds.length := by simp [sortD, sortL]
  rcases h.2 with ⟨rfl, h0⟩ | ⟨g, cap, cur, rfl, hb, hh, h1, h2, h3, h4⟩
  · refine (Try.slices_Sort_string_none none 0 W).mono ?_
    rintro e w' ⟨rfl, rfl⟩
    have hds : ds = [] := List.eq_nil_of_length_eq_zero h0
    subst hds
    have e0 : sortD [] = [] := by simp [sortD, sortL]
    rw [e0]
    exact ⟨rfl, ⟨rfl, .inl ⟨rfl, rfl⟩⟩, rfl, rfl, rfl, Nat.le_refl _, fun k _ _ => rfl⟩
  · have hH := holds_of_block (ss := ds.map bl) hh (by rw [map_bl, List.length_map]; simpa using h4)
    have := Try.slices_Sort_string g 0 cap (ds.map bl) W hH (blk_lt hh) (by rw [List.length_map]; omega)
    rw [List.length_map] at this
    refine this.mono ?_
    rintro e w' ⟨rfl, n, os, rfl⟩
    refine ⟨rfl, ?_, grownBy_sorted _⟩
    have hS := ownsRow_sorted (w := W) (base := base) (n := n) (os := os) (ss := ds.map bl) (ts := sortL (ds.map bl)) (by simp [sortL]) hb hh (by simpa using h1) h2 h3
    rw [hlen]
    unfold sortD
    rw [map_lb]
    rw [List.length_map] at hS
    exact hS
theorem compactc {W : World} {base : Nat} {dv : Value} {ds : List ByteArray} (h : W.ownsRow base 9 1 dv ds.length (ds.map Value.string)) (hl : ds.length ≤ 1000000) :
    Calls Try.prog 29 #[dv] W fun e w' => ∃ dv', e = .returned dv' ∧ w'.ownsRow base 9 1 dv' (compD ds).length ((compD ds).map Value.string) ∧ W.grownBy w' dv.ownBlock ∧ dv'.ownBlock = dv.ownBlock := by
  rcases h.2 with ⟨rfl, h0⟩ | ⟨g, cap, cur, rfl, hb, hh, h1, h2, h3, h4⟩
  · refine (Try.slices_Compact_string_empty none 0 W).mono ?_
    rintro e w' ⟨rfl, rfl⟩
    have hds : ds = [] := List.eq_nil_of_length_eq_zero h0
    subst hds
    exact ⟨_, rfl, ⟨rfl, .inl ⟨rfl, rfl⟩⟩, ⟨rfl, rfl, rfl, Nat.le_refl _, fun k _ _ => rfl⟩, rfl⟩
  · have hH := holds_of_block (ss := ds.map bl) hh (by rw [map_bl, List.length_map]; simpa using h4)
    have := Try.slices_Compact_string g 0 cap (ds.map bl) W hH (by rw [List.length_map]; omega) (by rw [List.length_map]; exact h1)
    rw [List.length_map] at this
    refine this.mono ?_
    rintro e w' ⟨rfl, q, rfl⟩
    have hle : (Lib.compact (ds.map bl)).length ≤ ds.length := by have := Lib.compact_length_le (ds.map bl); rwa [List.length_map] at this
    have h' : W.ownsRow base 9 1 (.slice (some ⟨g, 0, none⟩) ds.length cap) ds.length ((ds.map bl).map encStr) := by rw [map_bl]; exact h
    have := Lib.ownsRow_putRow (q := q) (k := (Lib.compact (ds.map bl)).length) (ys := Lib.compact (ds.map bl) ++ List.replicate (ds.length - (Lib.compact (ds.map bl)).length) []) h' (by rw [List.length_append, List.length_replicate]; omega) hle
    rw [List.take_left] at this
    refine ⟨_, rfl, ?_, ?_, rfl⟩
    · unfold compD
      rw [map_lb, List.length_map]
      exact this
    · have := grownBy_sorted (w := W) (g := g) (n := q) (os := #[]) (Lib.compact (ds.map bl) ++ List.replicate (ds.length - (Lib.compact (ds.map bl)).length) []).toArray
      rwa [Sort.grow_empty] at this
/-- A set's data are turned in place. -/
theorem Sets.swap {W w1 : World} {base : Nat} {v : Value} {ss : List SV} (h : Sets W base v ss) {i : Nat} {s : SV} (hi : ss[i]? = some s) {ds : List ByteArray}
    (ho : w1.ownsRow base 9 1 s.dv ds.length (ds.map Value.string)) (hg : W.grownBy w1 s.dv.ownBlock) : Sets w1 base v (ss.set i { s with datas := ds }) := by
  obtain ⟨hl, hs⟩ := List.getElem?_eq_some_iff.1 hi
  have hm : s ∈ ss := hs ▸ List.getElem_mem hl
  have hflat : (ss.set i { s with datas := ds }).flatMap cellsS = ss.flatMap cellsS := by
    have : (ss.set i { s with datas := ds }).map cellsS = ss.map cellsS := by
      rw [List.map_set]
      apply List.ext_getElem?
      intro j
      rw [List.getElem?_set]
      split
      · rename_i e
        subst e
        split
        · rw [List.getElem?_map, hi]; rfl
        · rename_i hn; rw [List.length_map] at hn; exact absurd hl hn
      · rfl
    rw [List.flatMap_def, List.flatMap_def, this]
  refine ⟨?_, fun t ht => ?_, ?_⟩
  · rw [hflat, List.length_set]
    refine h.own.kept hg ?_
    cases e : v.ownBlock with
    | none => exact .inl rfl
    | some k => exact .inr (own_two h.own (h.each s hm) (by decide) k e)
  · obtain ⟨j, hj⟩ := mem_at ht
    rcases set_at hj with ⟨rfl, rfl⟩ | ⟨n1, hj⟩
    · exact ho
    · have htm : t ∈ ss := List.mem_of_getElem? hj
      refine (h.each t htm).kept hg ?_
      cases e : t.dv.ownBlock with
      | none => exact .inl rfl
      | some k => exact .inr (fun q => h.apart j i t s hj hi n1 k e q.symm)
  · intro a b s1 s2 h1 h2 hab k hk hk2
    rcases set_at h1 with ⟨rfl, rfl⟩ | ⟨n1, k1⟩
    · rcases set_at h2 with ⟨rfl, rfl⟩ | ⟨n2, k2⟩
      · exact absurd rfl hab
      · exact h.apart a b s s2 hi k2 hab k hk hk2
    · rcases set_at h2 with ⟨rfl, rfl⟩ | ⟨n2, k2⟩
      · exact h.apart a b s1 s k1 hi hab k hk hk2
      · exact h.apart a b s1 s2 k1 k2 hab k hk hk2
def normP (s : SP) : SP := ⟨s.name, s.type, s.ttl, normD s.datas⟩
/-- What sets.Group answers: none is an error. -/
def groupS (l : List Rr) : Option (List SP) := (gather l).map (·.map normP)
theorem half_set {α β : Type} (f : α → α) : ∀ (A : List α) (m : Nat) (a : α), A[m]? = some a → ((A.take m).map f ++ A.drop m).set m (f a) = (A.take (m + 1)).map f ++ A.drop (m + 1)
  | [], m, a, h => by simp at h
  | x :: A, 0, a, h => by
    obtain rfl : x = a := by simpa using h
    rfl
  | x :: A, m + 1, a, h => by
    have := half_set (β := β) f A m a (by simpa using h)
    simp only [List.take_succ_cons, List.map_cons, List.drop_succ_cons, List.cons_append, List.set_cons_succ]
    rw [this]
theorem half_at {α : Type} (f : α → α) (A : List α) (m : Nat) (h : m ≤ A.length) : ((A.take m).map f ++ A.drop m)[m]? = A[m]? := by
  rw [List.getElem?_append_right (by simp; omega), List.length_map, List.length_take, Nat.min_eq_left h, List.getElem?_drop]
  simp
/- The plain side: sorted, each once. -/
theorem le_total' (x y : List UInt8) : x ≤ y ∨ y ≤ x := List.le_total x y
theorem le_trans' {x y z : List UInt8} (h : x ≤ y) (k : y ≤ z) : x ≤ z := List.le_trans h k
theorem sortL_pairwise (l : List (List UInt8)) : (sortL l).Pairwise (· ≤ ·) := by
  have := List.pairwise_mergeSort (le := fun x y : List UInt8 => decide (x ≤ y)) (fun a b c h k => by simp only [decide_eq_true_eq] at *; exact le_trans' h k) (fun a b => by simp only [Bool.or_eq_true, decide_eq_true_eq]; exact le_total' a b) l
  exact this.imp (fun h => by simpa using h)
theorem compUp (d : Array (List UInt8)) (hs : ∀ i j, i < j → j < d.size → d[i]! ≤ d[j]!) : ∀ m, m ≤ d.size →
    (Lib.compactUpTo d m).Pairwise (· < ·) ∧ (∀ x ∈ Lib.compactUpTo d m, ∃ j, j < m ∧ d[j]! = x) ∧ (∀ j, j < m → d[j]! ∈ Lib.compactUpTo d m)
  | 0, _ => by
    have : Lib.compactUpTo d 0 = [] := rfl
    rw [this]
    exact ⟨List.Pairwise.nil, fun x hx => by simp at hx, fun j hj => by omega⟩
  | m + 1, hm => by
    obtain ⟨h1, h2, h3⟩ := compUp d hs m (by omega)
    rw [Lib.compactUpTo_succ]
    cases hk : Lib.keeps d m with
    | true =>
      rw [if_pos rfl]
      have hlt : ∀ x ∈ Lib.compactUpTo d m, x < d[m]! := by
        intro x hx
        obtain ⟨j, hj, rfl⟩ := h2 x hx
        have h0 : 0 < m := by omega
        have hne : d[m]! ≠ d[m - 1]! := by
          intro e
          rw [Lib.keeps_neg h0 e] at hk
          cases hk
        have hle := hs (m - 1) m (by omega) (by omega)
        have hlt : d[m - 1]! < d[m]! := Std.lt_of_le_of_ne hle (fun e => hne e.symm)
        rcases Nat.lt_or_ge j (m - 1) with hj2 | hj2
        · exact Std.lt_of_le_of_lt (hs j (m - 1) hj2 (by omega)) hlt
        · obtain rfl : j = m - 1 := by omega
          exact hlt
      refine ⟨List.pairwise_append.2 ⟨h1, List.pairwise_singleton _ _, fun a ha b hb => by rw [List.mem_singleton.1 hb]; exact hlt a ha⟩, ?_, ?_⟩
      · intro x hx
        rcases List.mem_append.1 hx with hx | hx
        · obtain ⟨j, hj, e⟩ := h2 x hx; exact ⟨j, by omega, e⟩
        · exact ⟨m, by omega, (List.mem_singleton.1 hx).symm⟩
      · intro j hj
        rcases Nat.lt_or_ge j m with hj2 | hj2
        · exact List.mem_append_left _ (h3 j hj2)
        · obtain rfl : j = m := by omega
          exact List.mem_append_right _ (List.mem_singleton.2 rfl)
    | false =>
      rw [if_neg (by decide), List.append_nil]
      have h0 : 0 < m := by
        rcases Nat.eq_zero_or_pos m with e | e
        · subst e
          rw [Lib.keeps_lt_one d 0 (by decide)] at hk; cases hk
        · exact e
      have he : d[m]! = d[m - 1]! := by
        rcases Classical.em (d[m]! = d[m - 1]!) with e | e
        · exact e
        · rw [Lib.keeps_pos e] at hk; cases hk
      refine ⟨h1, fun x hx => ?_, fun j hj => ?_⟩
      · obtain ⟨j, hj, e⟩ := h2 x hx; exact ⟨j, by omega, e⟩
      · rcases Nat.lt_or_ge j m with hj2 | hj2
        · exact h3 j hj2
        · obtain rfl : j = m := by omega
          rw [he]; exact h3 (j - 1) (by omega)
theorem normD_pairwise (ds : List ByteArray) : (normD ds).Pairwise (fun x y => bl x < bl y) ∧ ∀ x, x ∈ normD ds ↔ x ∈ ds := by
  have hp := sortL_pairwise (ds.map bl)
  have hd : ∀ i j, i < j → j < (sortL (ds.map bl)).toArray.size → (sortL (ds.map bl)).toArray[i]! ≤ (sortL (ds.map bl)).toArray[j]! := by
    intro i j hij hj
    have hj' : j < (sortL (ds.map bl)).length := by simpa using hj
    rw [getElem!_pos _ i (by simp; omega), getElem!_pos _ j hj, List.getElem_toArray, List.getElem_toArray]
    exact List.pairwise_iff_getElem.1 hp i j (by omega) hj' hij
  obtain ⟨h1, h2, h3⟩ := compUp (sortL (ds.map bl)).toArray hd (sortL (ds.map bl)).length (by simp)
  have e : normD ds = (Lib.compactUpTo (sortL (ds.map bl)).toArray (sortL (ds.map bl)).length).map lb := by
    unfold normD compD sortD
    rw [map_lb_bl]
    rfl
  have hmem : ∀ y, y ∈ sortL (ds.map bl) ↔ y ∈ ds.map bl := fun y => List.mem_mergeSort
  rw [e]
  refine ⟨?_, fun x => ?_⟩
  · rw [List.pairwise_map]
    exact h1.imp (fun h => by rw [bl_lb, bl_lb]; exact h)
  · constructor
    · intro hx
      obtain ⟨y, hy, rfl⟩ := List.mem_map.1 hx
      obtain ⟨j, hj, rfl⟩ := h2 y hy
      have : (sortL (ds.map bl)).toArray[j]! ∈ ds.map bl := by
        rw [← hmem, getElem!_pos _ j (by simpa using hj), List.getElem_toArray]
        exact List.getElem_mem hj
      obtain ⟨z, hz, e⟩ := List.mem_map.1 this
      rw [← e, lb_bl]; exact hz
    · intro hx
      have : bl x ∈ sortL (ds.map bl) := (hmem _).2 (List.mem_map.2 ⟨x, hx, rfl⟩)
      obtain ⟨j, hj, e⟩ := List.mem_iff_getElem.1 this
      refine List.mem_map.2 ⟨bl x, ?_, lb_bl x⟩
      rw [← e]
      have := h3 j hj
      rwa [getElem!_pos _ j (by simpa using hj), List.getElem_toArray] at this
end Go.Proofs.Ythlajjcdmhgcmaa.Gr

namespace Go.Proofs.Ythlajjcdmhgcmaa.Gr
open Go.RowKit Go.PlainAid Go.Proofs.Ythlajjcdmhgcmaa.Base Go.Proofs.Ythlajjcdmhgcmaa.Nm Go.Proofs.Ythlajjcdmhgcmaa.Mk
open Go.Proofs.Ythlajjcdmhgcmaa.Fo (foldN foldNc)
open Go.Proofs.YthlajjcdmhgcmaaW.PrintWords (blk_cell blk_below blk_new blk_lt blk_alloc blk_put blk_frozen blk_grown)
set_option linter.unusedVariables false
set_option linter.unusedSimpArgs false
/-- What stands within the first loop: the sets, the map, what they tell. -/
structure G1 (w wr : World) (v : Value) (ss : List SV) (es : List Ent) (clock : Nat) (ps : List SP) : Prop where
  sets : Sets wr w.heap.size v ss
  map : wr.heap[w.heap.size]? = some (.map (mapE es) clock)
  told : Told ss es
  pure : ss.map SV.p = ps
  bel : Below w.heap.size w wr
/-- What Group leaves: an error, or sets of its own. -/
def GPost (l : List Rr) (w : World) (e : Ending) (w' : World) : Prop :=
  (groupS l = none ∧ e = .returned (.tuple #[.slice none 0 0, .int .i64 1100]) ∧ Below w.heap.size w w') ∨
  ∃ v ss, groupS l = some (ss.map SV.p) ∧ e = .returned (.tuple #[v, .int .i64 0]) ∧ Sets w' w.heap.size v ss ∧ Below w.heap.size w w'
theorem meas {j k n : Nat} (h : j + k = n + 1) (hj : j < n) : n - j < k := by omega
theorem wrap_succ {j n : Nat} (h : j ≤ n) (hn : n ≤ 1000000) : wrap64 ((j : Int) + 1) = ((j + 1 : Nat) : Int) := by unfold wrap64; omega
theorem groupS_bad {l : List Rr} (h : ¬ (l.length ≤ 64 ∧ l.all okG = true)) : groupS l = none := by unfold groupS gather; rw [if_neg h]; rfl
theorem groupS_ok {l : List Rr} (h : l.length ≤ 64) (k : l.all okG = true) : groupS l = some ((l.foldl stepG []).map normP) := by unfold groupS gather; rw [if_pos ⟨h, k⟩]; rfl
set_option maxHeartbeats 4000000 in
set_option maxRecDepth 100000 in
theorem group1 (l : List Rr) (A : Option Addr) (c : Nat) (w : World) (hR : RCells w A l) (hs : ∀ r ∈ l, r.data.size ≤ 9223372036854775000) (hl : l.length ≤ 1000000) :
    Calls Try.prog 10 #[.slice A l.length c] w fun e w' => GPost l w e w' := by
  by_cases h64 : l.length ≤ 64
  case neg =>
    have q : decide ((64 : Int) < (l.length : Int)) = true := by simp; omega
    have hE : GPost l w (.returned (.tuple #[.slice none 0 0, .int .i64 1100])) w := .inl ⟨groupS_bad (fun h => h64 h.1), rfl, Below.refl _ _⟩
    have HE := Lib.hid hE
    clear hR hs hE h64 hl
    generalize hN : l.length = n at *
    go_enter Try.func10, Try.ntmps10
    go_wp2_with fail
    go_ret2
    exact HE.out
  have q : decide ((64 : Int) < (l.length : Int)) = false := by simp; omega
  have HR := Lib.hid hR
  have HS := Lib.hid hs
  have H64 := Lib.hid h64
  have HL := Lib.hid hl
  clear hR hs h64 hl
  go_enter Try.func10, Try.ntmps10
  have hmm := @run_makeMap Try.prog
  go_wp2_with fail
  go_loopg [5, 18] (l.length + 1) (fun k v5 v18 wr => ∃ (j : Nat) (ss : List SV) (es : List Ent) (clock : Nat), v18 = .int .i64 j ∧ j + k = l.length + 1 ∧ j ≤ l.length ∧ (l.take j).all okG = true ∧ ss.length ≤ j ∧ (∀ s ∈ ss, s.datas.length ≤ j) ∧ G1 w wr v5 ss es clock ((l.take j).foldl stepG []))
  case atStart => exact ⟨0, [], [], 0, rfl, by omega, by omega, rfl, Nat.le_refl _, fun s hs => by simp at hs, Sets.start _ _, blk_new w (.map #[] 0), Told.nil, rfl, (Below.refl _ _).alloc (Nat.le_refl _) _⟩
  case round =>
    obtain ⟨j, ss, es, clock, rfl, hj1, hj2, ho, hfew, hdl, H1⟩ := hrel
    have HDL := Lib.hid hdl
    clear hdl
    have B := H1.bel
    by_cases hj : j < l.length
    case neg =>
      have q2 : decide ((j : Int) < (l.length : Int)) = false := by simp; omega
      obtain rfl : j = l.length := by omega
      rw [List.take_length] at ho H1
      have hG := groupS_ok H64.out ho
      obtain ⟨hS, _, _, hP, _⟩ := H1
      have hdl : ∀ s ∈ ss, s.datas.length ≤ 64 := fun s hs => Nat.le_trans (HDL.out s hs) H64.out
      have HD64 := Lib.hid hdl
      clear hdl
      rw [← hP] at hG
      have HG := Lib.hid hG
      have HN := Lib.hid (And.intro hfew HDL.out)
      clear hG hP HDL HR HS ho hj hj1 hj2
      obtain ⟨A5, c5, rfl⟩ := Sl.own_slice hS.own
      have hn64 : ss.length ≤ 64 := by have := H64.out; have := HN.out.1; omega
      have hN := HN.out.1
      go_wp2_with fail
      go_loopg [102] (ss.length + 1) (fun k v102 wq => ∃ (m : Nat) (s2 : List SV), v102 = .int .i64 m ∧ m + k = ss.length + 1 ∧ m ≤ ss.length ∧ Sets wq w.heap.size (.slice A5 ss.length c5) s2 ∧ s2.map SV.p = ((ss.map SV.p).take m).map normP ++ (ss.map SV.p).drop m ∧ Below w.heap.size w wq)
      case atStart => exact ⟨0, ss, rfl, by omega, by omega, hS, rfl, B⟩
      case round =>
        obtain ⟨m, s2, rfl, hm1, hm2, S2, hp2, B2⟩ := hrel
        have hlen : s2.length = ss.length := by
          have := congrArg List.length hp2
          rw [List.length_map, List.length_append, List.length_map, List.length_take, List.length_drop, List.length_map] at this
          omega
        have HP2 := Lib.hid hp2
        have HLN := Lib.hid hlen
        clear hp2 hlen
        by_cases hm : m < ss.length
        case neg =>
          obtain rfl : m = ss.length := by omega
          have q3 : decide ((ss.length : Int) < (ss.length : Int)) = false := by simp
          have hE : GPost l w (.returned (.tuple #[.slice A5 ss.length c5, .int .i64 0])) wr := by
            refine .inr ⟨_, s2, ?_, rfl, S2, B2⟩
            have e1 : (ss.map SV.p).length = ss.length := List.length_map _
            rw [HG.out, HP2.out, Option.some.injEq, ← e1, List.take_length, List.drop_length, List.append_nil]
          have HE := Lib.hid hE
          clear hE S2 B2 hS hm hm1 hm2 hn64 hN
          go_wp2_with fail
          go_ret2
          exact HE.out
        have q3 : decide ((m : Int) < (ss.length : Int)) = true := by simp; omega
        have hml : m < s2.length := by have := HLN.out; omega
        have hi : s2[m]? = some s2[m] := List.getElem?_eq_getElem hml
        have hpm : (ss.map SV.p)[m]? = some (s2[m]).p := by
          have e1 : (s2.map SV.p)[m]? = some (s2[m]).p := by rw [List.getElem?_map, hi]; rfl
          rw [HP2.out, half_at normP _ _ (by rw [List.length_map]; omega)] at e1
          exact e1
        generalize s2[m] = s at hi hpm
        obtain ⟨sn, st, sl, dv, ds⟩ := s
        have hds : ds.length ≤ 64 := by
          have e1 := hpm
          rw [List.getElem?_map] at e1
          obtain ⟨t, ht, e⟩ := Option.map_eq_some_iff.1 e1
          have := HD64.out t (List.mem_of_getElem? ht)
          have e2 : t.datas = ds := congrArg SP.datas e
          rwa [e2] at this
        have hset := half_set (β := SP) normP (ss.map SV.p) m _ hpm
        rw [← HP2.out] at hset
        have HSET := Lib.hid hset
        clear hset hpm
        have hD : wr.ownsRow w.heap.size 9 1 dv ds.length (ds.map Value.string) := S2.each _ (List.mem_of_getElem? hi)
        obtain ⟨Ad, cd, rfl⟩ := Sl.own_slice hD
        obtain ⟨g, cg, rfl5, hg1, hg2, cs6, hg3⟩ := S2.block hi
        have e3 : wr.cell? ⟨g, m * 4 + 3, none⟩ = some (.slice Ad ds.length cd) := by rw [rfl5] at S2; exact S2.cell hi (by decide)
        injection rfl5 with r1 r2 r3
        subst r1
        clear r2 r3 hg2 hg3 hn64 hN HLN HD64 HG HN hS
        have HDS := Lib.hid hds
        have HMR := Lib.hid (And.intro hm1 (And.intro hm hml))
        clear hds hm1 hm2 hml
        go_wp2_with fail
        refine (sortc hD (Nat.le_trans HDS.out (by decide))).mono ?_
        rintro e w1 ⟨rfl, ho1, hgr1⟩
        have S3 := S2.swap hi (ds := sortD ds) ho1 hgr1
        have B3 := B2.grown hgr1 B2.size (Sl.own_base hD)
        have hi3 : (s2.set m ⟨sn, st, sl, .slice Ad ds.length cd, sortD ds⟩)[m]? = some ⟨sn, st, sl, .slice Ad ds.length cd, sortD ds⟩ := List.getElem?_set_self HMR.out.2.2
        have hD3 : w1.ownsRow w.heap.size 9 1 (.slice Ad ds.length cd) (sortD ds).length ((sortD ds).map Value.string) := ho1
        clear e3 hgr1 ho1 S2 B2 hD hi
        have e3 : w1.cell? ⟨g, m * 4 + 3, none⟩ = some (.slice Ad ds.length cd) := S3.cell hi3 (by decide)
        have hsl : (sortD ds).length ≤ 1000000 := by have := HDS.out; unfold sortD sortL; rw [List.length_map, List.length_mergeSort, List.length_map]; omega
        have HSL := Lib.hid hsl
        clear hsl
        go_wp2_with fail
        refine (compactc hD3 HSL.out).mono ?_
        rintro e w2 ⟨dv2, rfl, ho2, hgr2, hat⟩
        obtain ⟨A6, c6, rfl⟩ := Sl.own_slice ho2
        obtain ⟨e8, f8⟩ := S3.store hi3 hgr2
        have S4 := S3.data hi3 rfl ho2 hgr2 (.inl hat)
        have B4 := (B3.grown hgr2 B3.size (Sl.own_base hD3)).setCell (p := ⟨g, m * 4 + 3, none⟩) hg1 (.slice A6 (compD (sortD ds)).length c6)
        generalize hnd : (compD (sortD ds)).length = nd at *
        have HND := Lib.hid hnd
        clear hnd
        clear e3 hat hgr2 hD3 B3 S3
        go_wp2_with fail
        go_roundg (ss.length - m)
        case measure => exact meas HMR.out.1 HMR.out.2.1
        case rel =>
          refine ⟨m + 1, _, by rw [wrap_succ (n := ss.length) (Nat.le_of_lt hm) (Nat.le_trans hfew HL.out)], (by have := meas HMR.out.1 hm; have := HMR.out.1; omega), hm, S4, ?_, B4⟩
          rw [List.set_set, List.map_set, ← HSET.out]
          rfl
    have q2 : decide ((j : Int) < (l.length : Int)) = true := by simp; omega
    obtain ⟨ad, rfl, hat⟩ : ∃ ad, A = some ad ∧ ∀ j, j < l.length → AtR w (ad.add (j * 5)) (l.getD j zR) := by
      rcases HR.out with h | h
      · omega
      · exact h
    have ha := (hat j hj).below B
    have hmem : l.getD j zR ∈ l := by rw [List.getD_eq_getElem?_getD, List.getElem?_eq_getElem hj]; exact List.getElem_mem hj
    have hds := HS.out _ hmem
    have htk : (l.take (j + 1)).all okG = ((l.take j).all okG && okG (l.getD j zR)) := by
      rw [List.take_succ_eq_append_getElem hj, List.all_append, List.getD_eq_getElem?_getD, List.getElem?_eq_getElem hj]
      simp
    have htf : (l.take (j + 1)).foldl stepG [] = stepG ((l.take j).foldl stepG []) (l.getD j zR) := by
      rw [List.take_succ_eq_append_getElem hj, List.foldl_append, List.getD_eq_getElem?_getD, List.getElem?_eq_getElem hj]
      rfl
    have hbad : okG (l.getD j zR) = false → l.all okG = false := fun h => List.all_eq_false.2 ⟨_, hmem, by rw [h]; decide⟩
    generalize l.getD j zR = x at *
    have TK := Lib.hid htk
    have TF := Lib.hid htf
    have BAD := Lib.hid hbad
    have HO := Lib.hid ho
    have DS := Lib.hid hds
    clear hat htk htf hbad hmem ho hds
    obtain ⟨f0, f1, f2, f3, f4⟩ := ha
    have Ba : Below wr.heap.size wr (wr.alloc (.cells #[.string x.name, .int .i64 x.type, .int .i64 x.cls, .int .i64 x.ttl, .string x.data] 43)) := (Below.refl _ _).alloc (Nat.le_refl _) _
    have ba := blk_new wr (.cells #[.string x.name, .int .i64 x.type, .int .i64 x.cls, .int .i64 x.ttl, .string x.data] 43)
    have hE : okG x = false → ∀ w', Below w.heap.size w w' → GPost l w (.returned (.tuple #[.slice none 0 0, .int .i64 1100])) w' := fun h w' hb => .inl ⟨groupS_bad (fun k => by rw [BAD.out h] at k; exact absurd k.2 (by decide)), rfl, hb⟩
    have HE := Lib.hid hE
    clear hE
    have kM := fun w => may x.name w
    have kD := fun w => Rd.dmay x.type x.data w DS.out
    go_upto_region 8 with (fail)
    have B2 := B.trans (Ba.mono B.size)
    have C := Ba
    generalize wr.alloc (.cells #[.string x.name, .int .i64 x.type, .int .i64 x.cls, .int .i64 x.ttl, .string x.data] 43) = w1 at *
    obtain ⟨gx, hgx⟩ : ∃ g, g = wr.heap.size := ⟨_, rfl⟩
    rw [← hgx] at ba ⊢
    clear hgx Ba f0 f1 f2 f3 f4 B
    have y0 : w1.cell? ⟨gx, 0, none⟩ = some (.string x.name) := (blk_cell ba 0).trans rfl
    cases n0 : nameB x.name with
    | false =>
      rw [n0] at kM
      have h0 : okG x = false := by unfold okG; rw [n0]; rfl
      have HZ := Lib.hid (HE.out h0)
      clear n0 h0
      go_wp2_with fail
      refine (kM _).mono ?_
      rintro e w2 ⟨rfl, hb⟩
      replace B2 := B2.trans (hb.mono B2.size); replace C := C.trans (hb.mono C.size)
      clear hb y0 ba
      go_wp2_with fail
      go_ret2
      exact HZ.out _ B2
    | true =>
      rw [n0] at kM
      have N0 := Lib.hid n0
      clear n0
      go_wp2_with fail
      refine (kM _).mono ?_
      rintro e w2 ⟨rfl, hb⟩
      replace B2 := B2.trans (hb.mono B2.size); replace C := C.trans (hb.mono C.size)
      replace ba := blk_below ba hb
      clear hb y0
      have y1 : w2.cell? ⟨gx, 1, none⟩ = some (.int .i64 x.type) := (blk_cell ba 1).trans rfl
      have y3 : w2.cell? ⟨gx, 3, none⟩ = some (.int .i64 x.ttl) := (blk_cell ba 3).trans rfl
      have y4 : w2.cell? ⟨gx, 4, none⟩ = some (.string x.data) := (blk_cell ba 4).trans rfl
      by_cases h1 : x.ttl < 0
      · have d1 : decide (x.ttl < 0) = true := decide_eq_true h1
        have h0 : okG x = false := by unfold okG; rw [decide_eq_false (show ¬ 0 ≤ x.ttl by omega)]; simp
        have HZ := Lib.hid (HE.out h0)
        clear h0 h1 ba
        go_wp2_with fail
        go_ret2
        exact HZ.out _ B2
      have d1 : decide (x.ttl < 0) = false := decide_eq_false h1
      by_cases h2 : 4294967295 < x.ttl
      · have d2 : decide (4294967295 < x.ttl) = true := decide_eq_true h2
        have h0 : okG x = false := by unfold okG; rw [decide_eq_false (show ¬ x.ttl ≤ 4294967295 by omega)]; simp
        have HZ := Lib.hid (HE.out h0)
        clear h0 h1 h2 ba
        go_wp2_with fail
        go_ret2
        exact HZ.out _ B2
      have d2 : decide (4294967295 < x.ttl) = false := decide_eq_false h2
      have h3 : decide (0 ≤ x.ttl) = true := decide_eq_true (by omega)
      have h4 : decide (x.ttl ≤ 4294967295) = true := decide_eq_true (by omega)
      have H34 := Lib.hid (And.intro h3 h4)
      clear h1 h2 h3 h4
      cases m0 : Rd.mayD x.type x.data with
      | false =>
        rw [m0] at kD
        have h0 : okG x = false := by unfold okG; rw [m0]; simp
        have HZ := Lib.hid (HE.out h0)
        clear m0 h0
        go_wp2_with fail
        refine (kD _).mono ?_
        rintro e w3 ⟨rfl, hb⟩
        replace B2 := B2.trans (hb.mono B2.size); replace C := C.trans (hb.mono C.size)
        clear hb ba y1 y3 y4
        go_wp2_with fail
        go_ret2
        exact HZ.out _ B2
      | true =>
        rw [m0] at kD
        have h0 : okG x = true := by unfold okG; rw [m0, N0.out, H34.out.1, H34.out.2]; rfl
        have HZ := Lib.hid (show (l.take (j + 1)).all okG = true by rw [TK.out, HO.out, h0]; rfl)
        clear m0 h0
        go_wp2_with fail
        refine (kD _).mono ?_
        rintro e w3 ⟨rfl, hb⟩
        replace B2 := B2.trans (hb.mono B2.size); replace C := C.trans (hb.mono C.size)
        replace ba := blk_below ba hb
        clear hb y1 y3 y4
        have y0 : w3.cell? ⟨gx, 0, none⟩ = some (.string x.name) := (blk_cell ba 0).trans rfl
        have y1 : w3.cell? ⟨gx, 1, none⟩ = some (.int .i64 x.type) := (blk_cell ba 1).trans rfl
        have y2 : w3.cell? ⟨gx, 2, none⟩ = some (.int .i64 x.cls) := (blk_cell ba 2).trans rfl
        by_cases hc : x.cls = 1
        case neg =>
          have c2 : (x.cls != 1) = true := by simpa using hc
          have hG := H1.sets.below C
          have hM := blk_below H1.map C
          have HF := Lib.hid (show (l.take (j + 1)).foldl stepG [] = (l.take j).foldl stepG [] by rw [TF.out]; unfold stepG; rw [if_neg hc])
          clear hc y0 y1 ba C
          go_wp2_with fail
          go_roundg (l.length - j)
          case measure => exact meas hj1 hj
          case rel => exact ⟨j + 1, ss, es, clock, by rw [wrap_succ hj2 HL.out], by omega, hj, HZ.out, Nat.le_succ_of_le hfew, fun s hs => Nat.le_succ_of_le (HDL.out s hs), ⟨hG, hM, H1.told, by rw [HF.out]; exact H1.pure, B2⟩⟩
        have c2 : (x.cls != 1) = false := by simpa using hc
        go_upto_region 11 with (fail)
        have kF := fun w => foldNc x.name w
        have Bd : Below w3.heap.size w3 w3.drew := (Below.refl _ _).drew
        have bd : w3.drew.heap[gx]? = _ := ba
        have d0 : w3.drew.cell? ⟨gx, 0, none⟩ = some (.string x.name) := y0
        have d1 : w3.drew.cell? ⟨gx, 1, none⟩ = some (.int .i64 x.type) := y1
        go_cut [8] (fun v8 wc => ∃ gk, v8 = .pointer (some ⟨gk, 0, none⟩) ∧ wc.heap[gk]? = some (.cells #[.string (foldN x.name), .int .i64 x.type] 61 (0, 0)) ∧ Below w3.heap.size w3 wc ∧ w3.heap.size ≤ gk)
        case first =>
          have hne1 : ¬ gx = w3.heap.size := Nat.ne_of_lt (blk_lt ba)
          have hne1' : ¬ w3.heap.size = gx := fun e => hne1 e.symm
          have B0 : Below w3.heap.size w3 (w3.alloc (.cells #[.string ⟨#[]⟩, .int .i64 0] 61)) := (Below.refl _ _).alloc (Nat.le_refl _) _
          have bq0 := blk_new w3 (.cells #[.string ⟨#[]⟩, .int .i64 0] 61)
          have BdB : Below w3.heap.size w3 (w3.alloc (.cells #[.string ⟨#[]⟩, .int .i64 0] 61)).drew := B0.drew
          have bdB : (w3.alloc (.cells #[.string ⟨#[]⟩, .int .i64 0] 61)).drew.heap[gx]? = _ := blk_alloc ba _
          have bqB : (w3.alloc (.cells #[.string ⟨#[]⟩, .int .i64 0] 61)).drew.heap[w3.heap.size]? = _ := bq0
          go_region_held3 (fun w' => w'.cell? ⟨gx, 0, none⟩ = some (.string x.name) ∧ w'.cell? ⟨gx, 1, none⟩ = some (.int .i64 x.type))
            (first | go_keep | (go_split_ands; refine ⟨?_, ?_⟩ <;> assumption))
            (first
              | (go_at_call 27; with_reducible refine (kF w3.drew).mono ?_; rintro e w' ⟨rfl, hb⟩; have Bd := Bd.trans (hb.mono Bd.size); have bd := blk_below bd hb; have d0 : w'.cell? ⟨gx, 0, none⟩ = some (.string x.name) := (blk_cell bd 0).trans rfl; have d1 : w'.cell? ⟨gx, 1, none⟩ = some (.int .i64 x.type) := (blk_cell bd 1).trans rfl; have hne2 : ¬ gx = w'.heap.size := Nat.ne_of_lt (blk_lt bd); have hne2' : ¬ w'.heap.size = gx := Nat.ne_of_gt (blk_lt bd))
              | (go_at_call 27; with_reducible refine (kF (w3.alloc (.cells #[.string ⟨#[]⟩, .int .i64 0] 61)).drew).mono ?_; rintro e w' ⟨rfl, hb⟩; have Bd := BdB.trans (hb.mono BdB.size); have bd := blk_below bdB hb; have bq := blk_below bqB hb; have d0 : w'.cell? ⟨gx, 0, none⟩ = some (.string x.name) := (blk_cell bd 0).trans rfl; have d1 : w'.cell? ⟨gx, 1, none⟩ = some (.int .i64 x.type) := (blk_cell bd 1).trans rfl; have z0 : w'.cell? ⟨w3.heap.size, 0, none⟩ = some (.string ⟨#[]⟩) := (blk_cell bq 0).trans rfl; have z1 : w'.cell? ⟨w3.heap.size, 1, none⟩ = some (.int .i64 0) := (blk_cell bq 1).trans rfl; have f0 := blk_frozen bq 0; have f1 := blk_frozen bq 1))
          · try go_wp2_with fail
            go_meet
            case rel => exact ⟨w'.heap.size, rfl, blk_new w' _, Bd.alloc Bd.size _, Bd.size⟩
          · try go_wp2_with fail
            go_meet
            case rel =>
              have b3 := blk_put (blk_put bq 0 (.string (foldN x.name)) rfl) 1 (.int .i64 x.type) rfl
              exact ⟨w3.heap.size, rfl, by simpa using b3, (Bd.setCell (p := ⟨w3.heap.size, 0, none⟩) (Nat.le_refl _) _).setCell (p := ⟨w3.heap.size, 1, none⟩) (Nat.le_refl _) _, Nat.le_refl _⟩
        case rest =>
          obtain ⟨gk, rfl, bk, Bk, hk⟩ := hcut
          have hS := H1.sets.below (C.trans (Bk.mono C.size))
          have hM := blk_below (blk_below H1.map C) Bk
          have hT := H1.told
          have hP := H1.pure
          have bx := blk_below ba Bk
          have B5 := B2.trans (Bk.mono B2.size)
          have hlk : (Instr.lookup 57 (.map (some w.heap.size)) (.agg #[.string (foldN x.name), .int .i64 x.type]) true).run Try.prog wc = _ := lookK (foldN x.name, x.type) es w.heap.size clock wc hM
          have k0 : wc.cell? ⟨gk, 0, none⟩ = some (.string (foldN x.name)) := (blk_cell bk 0).trans rfl
          have k1 : wc.cell? ⟨gk, 1, none⟩ = some (.int .i64 x.type) := (blk_cell bk 1).trans rfl
          clear bd d0 d1 y0 y1 y2 ba C Bk B2 Bd
          obtain ⟨A5, c5, rfl⟩ := Sl.own_slice hS.own
          obtain ⟨i9, b, hlk2, hyes, hno⟩ : ∃ (i9 : Int) (b : Bool), (Instr.lookup 57 (.map (some w.heap.size)) (.agg #[.string (foldN x.name), .int .i64 x.type]) true).run Try.prog wc = .ok (.tuple #[.int .i64 i9, .bool b]) wc ∧ (b = true → ∃ (i : Nat) (s : SV), ss[i]? = some s ∧ (s.name, s.type) = (foldN x.name, x.type) ∧ i9 = (i : Int)) ∧ (b = false → findE (foldN x.name, x.type) es 0 = none) := by
            cases hf : findE (foldN x.name, x.type) es 0 with
            | none => rw [hf] at hlk; exact ⟨0, false, hlk, (fun h => by cases h), fun _ => rfl⟩
            | some r =>
              obtain ⟨i, s, hi, hk2, hr⟩ := hT.look hf
              rw [hf] at hlk
              dsimp only at hlk
              rw [hr] at hlk
              exact ⟨i, true, hlk, fun _ => ⟨i, s, hi, hk2, rfl⟩, (fun h => by cases h)⟩
          clear hlk
          have HY := Lib.hid hyes
          have HO2 := Lib.hid hno
          clear hyes hno
          have hl8 : ss.length ≤ 1000000 := by have := H64.out; omega
          go_upto_if 60 with (fail)
          go_cut [5, 9] (fun v5 v9 wd => ∃ (ss2 : List SV) (es2 : List Ent) (clock2 i : Nat) (s : SV), v9 = .int .i64 (i : Int) ∧ ss2[i]? = some s ∧ (s.name, s.type) = (foldN x.name, x.type) ∧ Sets wd w.heap.size v5 ss2 ∧ wd.heap[w.heap.size]? = some (.map (mapE es2) clock2) ∧ Told ss2 es2 ∧ (ss2 = ss ∨ ss2 = ss ++ [⟨foldN x.name, x.type, 86400, .slice none 0 0, []⟩] ∧ ∀ t ∈ ss, (t.name, t.type) ≠ (foldN x.name, x.type)) ∧ Below w.heap.size w wd ∧ wd.heap[gx]? = some (.cells #[.string x.name, .int .i64 x.type, .int .i64 x.cls, .int .i64 x.ttl, .string x.data] 43 (0, 0)))
          case first =>
            cases b with
            | true =>
              obtain ⟨i, s, hi, hk2, rfl⟩ := HY.out rfl
              have HI := Lib.hid (And.intro hi hk2)
              clear hi hk2
              go_wp2_with fail
              go_meet
              case rel => exact ⟨ss, es, clock, i, s, rfl, HI.out.1, HI.out.2, hS, hM, hT, .inl rfl, B5, bx⟩
            | false =>
              have hf := HO2.out rfl
              have HM := Lib.hid (hT.miss hf)
              have hpu : (Instr.mapUpdate 57 (.map (some w.heap.size)) (.agg #[.string (foldN x.name), .int .i64 x.type]) (.int .i64 (ss.length : Int))).run Try.prog wc = _ := putK (foldN x.name, x.type) (ss.length : Int) es w.heap.size clock wc hM hf
              clear hf
              have hS2 := hS.heap (map_put hM (.map (mapE (es ++ [(⟨(foldN x.name, x.type), (ss.length : Int), clock⟩ : Ent)])) (clock + 1)))
              have hM2 := (MapKept.heap_set (o' := .map (mapE (es ++ [(⟨(foldN x.name, x.type), (ss.length : Int), clock⟩ : Ent)])) (clock + 1)) hM).1
              have bkM := (map_put hM (.map (mapE (es ++ [(⟨(foldN x.name, x.type), (ss.length : Int), clock⟩ : Ent)])) (clock + 1)) gk _ _ _ bk).trans bk
              have bxM := (map_put hM (.map (mapE (es ++ [(⟨(foldN x.name, x.type), (ss.length : Int), clock⟩ : Ent)])) (clock + 1)) gx _ _ _ bx).trans bx
              have BM := map_below B5 (Nat.le_refl _) (.map (mapE (es ++ [(⟨(foldN x.name, x.type), (ss.length : Int), clock⟩ : Ent)])) (clock + 1))
              go_upto_region 16 with (fail)
              change ({ wc with heap := wc.heap.setIfInBounds w.heap.size (.map (mapE (es ++ [(⟨(foldN x.name, x.type), (ss.length : Int), clock⟩ : Ent)])) (clock + 1)) } : World).heap[w.heap.size]? = _ at hM2
              generalize ({ wc with heap := wc.heap.setIfInBounds w.heap.size (.map (mapE (es ++ [(⟨(foldN x.name, x.type), (ss.length : Int), clock⟩ : Ent)])) (clock + 1)) } : World) = wm at *
              clear hpu k0 k1 hS hM bk bx B5
              have k0 : wm.cell? ⟨gk, 0, none⟩ = some (.string (foldN x.name)) := (blk_cell bkM 0).trans rfl
              have k1 : wm.cell? ⟨gk, 1, none⟩ = some (.int .i64 x.type) := (blk_cell bkM 1).trans rfl
              go_wp2_with (at_builtin; refine app_at w.heap.size rfl _ _ 27 25 (.agg #[.string ⟨#[]⟩, .int .i64 0, .int .i64 0, .slice none 0 0]) 4 56 rfl Try.underlying27 (by kernel_rfl) rfl (by decide) hS2.own #[.string (foldN x.name), .int .i64 x.type, .int .i64 86400, .slice none 0 0] rfl rfl rfl (by intro u hu; simp at hu; rcases hu with rfl | rfl | rfl | rfl <;> rfl) BM.size ?hn ?hl ?_)
              case hn => omega
              case hl => omega
              intro v1 w1 ho hg hat
              have Ba : Below wm.heap.size wm (wm.alloc (.cells #[.string (foldN x.name), .int .i64 x.type, .int .i64 86400, .slice none 0 0] 25)) := (Below.refl _ _).alloc (Nat.le_refl _) _
              have hS3 := (hS2.below Ba).add ho hg
              have hM3 := blk_grown (blk_alloc hM2 _) hg (own_map (hS2.below Ba).own (blk_alloc hM2 _))
              have bx3 := blk_grown (blk_alloc bxM _) hg (own_other (hS2.below Ba).own (blk_alloc bxM _) (by decide))
              have B3 := (BM.alloc BM.size (.cells #[.string (foldN x.name), .int .i64 x.type, .int .i64 86400, .slice none 0 0] 25)).grown hg (by simp; have := BM.size; omega) (Sl.own_base hS2.own)
              have hT3 := hT.add (c := clock) (s := ⟨foldN x.name, x.type, 86400, .slice none 0 0, []⟩) HM.out
              clear hS2 hM2 bkM bxM BM hg hat ho Ba k0 k1
              go_wp2_with fail
              go_meet
              case rel => exact ⟨ss ++ [⟨foldN x.name, x.type, 86400, .slice none 0 0, []⟩], _, clock + 1, ss.length, ⟨foldN x.name, x.type, 86400, .slice none 0 0, []⟩, rfl, (by rw [List.getElem?_append_right (Nat.le_refl _), Nat.sub_self]; rfl), rfl, hS3, hM3, hT3, .inr ⟨rfl, HM.out⟩, B3, bx3⟩
          case rest =>
            obtain ⟨ss2, es2, clock2, i, s, rfl, hi, hk, hS6, hM6, hT6, hw6, B6, bx6⟩ := hcut
            have hlen2 : ss2.length ≤ j + 1 := by rcases hw6 with rfl | ⟨rfl, _⟩ <;> (try rw [List.length_append, List.length_singleton]) <;> omega
            have hdl2 : ∀ t ∈ ss2, t.datas.length ≤ j := by
              rcases hw6 with rfl | ⟨rfl, _⟩
              · exact HDL.out
              · intro t ht
                rcases List.mem_append.1 ht with ht | ht
                · exact HDL.out t ht
                · obtain rfl := List.mem_singleton.1 ht; exact Nat.zero_le _
            have hPut := fun dv => put_told (l := x.ttl) (d := x.data) (dv := dv) hT6 hi hk hw6
            have hTold := fun dv => hT6.set (s' := ⟨s.name, s.type, min s.ttl x.ttl, dv, s.datas ++ [x.data]⟩) hi rfl
            obtain ⟨hil, _⟩ := List.getElem?_eq_some_iff.1 hi
            obtain ⟨g, c6, rfl, hg1, hg2, cs6, hg3⟩ := hS6.block hi
            have HSd := Lib.hid (And.intro hPut (And.intro hTold (And.intro hdl2 hlen2)))
            clear hPut hTold hdl2 hlen2 hw6 hk hT6 hT hP hS hM bk bx hl8 hlk2 k0 k1 HY HO2
            have hgx : ¬ gx = g := by
              rintro rfl
              have := hg3.symm.trans bx6
              injection this with q
              injection q with _ q
              exact absurd q (by decide)
            have e2 : wc.drew.cell? ⟨g, i * 4 + 2, none⟩ = some (.int .i64 s.ttl) := hS6.cell hi (by decide)
            have z2 : wc.drew.frozen? ⟨g, i * 4 + 2, none⟩ = false := hS6.own.frozenAt _
            have x3 : wc.drew.cell? ⟨gx, 3, none⟩ = some (.int .i64 x.ttl) := (blk_cell bx6 3).trans rfl
            have i1 : decide ((i : Int) < (ss2.length : Int)) = true := by simp; omega
            go_wp2_with fail
            go_region
            have S7 : Sets (wc.setCell ⟨g, i * 4 + 2, none⟩ (.int .i64 (min s.ttl x.ttl))).drew w.heap.size (.slice (some ⟨g, 0, none⟩) ss2.length c6) (ss2.set i { s with ttl := min s.ttl x.ttl }) := (hS6.ttl hi rfl (min s.ttl x.ttl)).drew
            have hM7 : (wc.setCell ⟨g, i * 4 + 2, none⟩ (.int .i64 (min s.ttl x.ttl))).drew.heap[w.heap.size]? = _ := blk_set_ne hM6 (fun q => own_map hS6.own hM6 (by rw [q]; rfl)) _
            have bx7 : (wc.setCell ⟨g, i * 4 + 2, none⟩ (.int .i64 (min s.ttl x.ttl))).drew.heap[gx]? = _ := blk_set_ne bx6 hgx _
            have B7 : Below w.heap.size w (wc.setCell ⟨g, i * 4 + 2, none⟩ (.int .i64 (min s.ttl x.ttl))).drew := (B6.setCell (p := ⟨g, i * 4 + 2, none⟩) hg1 _).drew
            clear hS6 hM6 bx6 B6 e2 z2 x3 hg2 hg3
            generalize (wc.setCell ⟨g, i * 4 + 2, none⟩ (.int .i64 (min s.ttl x.ttl))).drew = w7 at *
            have hi7 : (ss2.set i { s with ttl := min s.ttl x.ttl })[i]? = some { s with ttl := min s.ttl x.ttl } := by rw [List.getElem?_set_self hil]
            have hil7 : i < (ss2.set i { s with ttl := min s.ttl x.ttl }).length := by rw [List.length_set]; exact hil
            have hD7 := S7.each _ (List.mem_of_getElem? hi7)
            have hdl7 : s.datas.length ≤ 100000 := by have := HSd.out.2.2.1 s (List.mem_of_getElem? hi); have := H64.out; omega
            have hsz7 : g < w7.heap.size := by obtain ⟨g', _, e, _, h2, _⟩ := S7.block hi7; injection e with e _ _; injection e with e; injection e with e; rw [e]; exact h2
            have e3 : w7.drew.cell? ⟨g, i * 4 + 3, none⟩ = some s.dv := S7.cell hi7 (by decide)
            have x4 : w7.drew.cell? ⟨gx, 4, none⟩ = some (.string x.data) := (blk_cell bx7 4).trans rfl
            have e3b : w7.cell? ⟨g, i * 4 + 3, none⟩ = some s.dv := S7.cell hi7 (by decide)
            have x4b : w7.cell? ⟨gx, 4, none⟩ = some (.string x.data) := (blk_cell bx7 4).trans rfl
            have Ba : Below w7.heap.size w7 (w7.drew.alloc (.cells #[.string x.data] 9)) := ((Below.refl _ _).drew).alloc (Nat.le_refl _) _
            have e3a : (w7.drew.alloc (.cells #[.string x.data] 9)).cell? ⟨g, i * 4 + 3, none⟩ = some s.dv := (S7.below Ba).cell hi7 (by decide)
            have hDa := Sl.own_below hD7 Ba
            have bNa := blk_new w7.drew (.cells #[.string x.data] 9)
            have hne7 : ¬ g = w7.heap.size := Nat.ne_of_lt hsz7
            have hbb : w.heap.size ≤ (w7.drew.alloc (.cells #[.string x.data] 9)).heap.size := by have := B7.size; simp; omega
            go_wp2_with fail
            go_region_law (refine step_ds (base := w.heap.size) (dv := s.dv) (ds := s.datas) (d := x.data) (g := w7.heap.size) (c := 1) (by rfl) _ _ (by rfl) (by rfl) (by rfl) (by rfl) hDa bNa hdl7 hbb ?_; intro v8 w8 n8 hn8 ho8 hg8 hat8; obtain ⟨A8, c8, rfl⟩ := Sl.own_slice ho8; obtain ⟨e8, f8⟩ := (S7.below Ba).store hi7 hg8)
            all_goals
              have S8 := (S7.below Ba).data (ds := s.datas ++ [x.data]) hi7 rfl (by have e := hn8.out; rw [← e]; exact ho8) hg8 (hat8.elim .inl (fun q => .inr (.inr ⟨_, q, Nat.le_refl _⟩)))
              have hMa : (w7.drew.alloc (.cells #[.string x.data] 9)).heap[w.heap.size]? = _ := blk_alloc (w := w7.drew) hM7 _
              have hM8 := blk_set_ne (p := ⟨g, i * 4 + 3, none⟩) (blk_grown hMa hg8 (own_map hDa hMa)) (fun q => own_map S7.own hM7 (by rw [q]; rfl)) (.slice A8 n8 c8)
              have B8 := ((B7.drew.alloc B7.size (.cells #[.string x.data] 9)).grown hg8 hbb (Sl.own_base hDa)).setCell (p := ⟨g, i * 4 + 3, none⟩) hg1 (.slice A8 n8 c8)
              clear hMa hDa bNa hdl7 hbb e3 x4 e3a e3b x4b Ba hD7 S7 hM7 bx7 B7 e8 f8 ho8 hg8 hat8
              generalize w8.setCell ⟨g, i * 4 + 3, none⟩ (.slice A8 n8 c8) = w9 at *
              go_wp2_with fail
              go_roundg (l.length - j)
              case measure => exact meas hj1 hj
              case rel =>
                rw [List.set_set] at S8
                refine ⟨j + 1, ss2.set i ⟨s.name, s.type, min s.ttl x.ttl, .slice A8 n8 c8, s.datas ++ [x.data]⟩, es2, clock2, by rw [wrap_succ hj2 HL.out], (by have := meas hj1 hj; omega), hj, HZ.out, ?_, ?_, ?_⟩
                rotate_left 2
                · exact ⟨by simpa using S8, hM8, HSd.out.2.1 _, by rw [TF.out, show stepG ((l.take j).foldl stepG []) x = putIn (foldN x.name) x.type x.ttl x.data ((l.take j).foldl stepG []) from if_pos hc, ← H1.pure]; exact HSd.out.1 _, B8⟩
                · rw [List.length_set]; exact HSd.out.2.2.2
                · intro t ht
                  rcases List.mem_or_eq_of_mem_set ht with ht | rfl
                  · have := HSd.out.2.2.1 t ht; omega
                  · have := HSd.out.2.2.1 s (List.mem_of_getElem? hi)
                    simp only [List.length_append, List.length_singleton]; omega
end Go.Proofs.Ythlajjcdmhgcmaa.Gr

namespace Go.Proofs.Ythlajjcdmhgcmaa.Gr
open Go.RowKit Go.PlainAid Go.Proofs.Ythlajjcdmhgcmaa.Base
open Go.Proofs.YthlajjcdmhgcmaaW.PrintWords (Kd Reps OwnRow ReadsRow)
set_option linter.unusedVariables false
def fitG (l : List Rr) : Bool := l.all (fun r => decide (r.data.size ≤ 9223372036854775000))
set_option maxRecDepth 100000 in
/-- Too many records: an error at once. -/
theorem groupLong (l : List Rr) (A : Option Addr) (c : Nat) (w : World) (h64 : ¬ l.length ≤ 64) : Calls Try.prog 10 #[.slice A l.length c] w fun e w' => GPost l w e w' := by
  have q : decide ((64 : Int) < (l.length : Int)) = true := by simp; omega
  have hE : GPost l w (.returned (.tuple #[.slice none 0 0, .int .i64 1100])) w := .inl ⟨groupS_bad (fun h => h64 h.1), rfl, Below.refl _ _⟩
  have HE := Lib.hid hE
  clear hE h64
  generalize hN : l.length = n at *
  go_enter Try.func10, Try.ntmps10
  go_wp2_with fail
  go_ret2
  exact HE.out
def groupV (l : List Rr) : List SP × Int := match groupS l with
  | none => ([], 1100)
  | some ps => (ps, 0)
def groupF (l : List Rr) : Option (List SP × Int) := if fitG l = true then some (groupV l) else none
theorem add_at (a : Addr) (i j : Nat) : (a.add i).add j = a.add (i + j) := by
  unfold Addr.add
  by_cases hi : i = 0
  · simp [hi]
  · by_cases hj : j = 0
    · simp [hj]
    · simp [hi, hj, Nat.add_assoc]
theorem add_pos (a : Addr) (j : Nat) (h : j ≠ 0) : a.add j = ⟨a.block, a.off + j, none⟩ := by
  unfold Addr.add
  simp [h]
theorem rcells_of {α : Type} {d : Kd α} {f : α → Rr} (hK : ∀ {w : World} {x : α} {cs : List Value}, d.K w x cs → cs = [.string (f x).name, .int .i64 (f x).type, .int .i64 (f x).cls, .int .i64 (f x).ttl, .string (f x).data]) (hsz : d.sz = 5)
    {w : World} {A : Option Addr} {n : Nat} {xs : List α} (h : d.C w A n xs) : RCells w A (xs.map f) := by
  obtain ⟨h1, h2, h3⟩ := h
  rcases Nat.eq_zero_or_pos n with h0 | h0
  · exact .inl (by rw [List.length_map, h1, h0])
  · obtain ⟨ad, rfl, hc⟩ := h3 h0
    refine .inr ⟨ad, rfl, fun j hj => ?_⟩
    rw [List.length_map] at hj
    obtain ⟨c, hc1, hc2, hc3⟩ := hc j _ (List.getElem?_eq_getElem hj)
    have e : (xs.map f).getD j zR = f xs[j] := by rw [List.getD_eq_getElem?_getD, List.getElem?_map, List.getElem?_eq_getElem hj]; rfl
    obtain rfl := hK hc2
    rw [e]
    rw [hsz] at hc3
    have g : ∀ (i : Nat) (u : Value), i ≠ 0 → w.cell? (ad.add (j * 5 + i)) = some u → w.cell? ⟨(ad.add (j * 5)).block, (ad.add (j * 5)).off + i, none⟩ = some u := by
      intro i u hi hu
      rw [← add_at, add_pos _ i hi] at hu
      exact hu
    exact ⟨hc3 0 _ rfl, g 1 _ (by decide) (hc3 1 _ rfl), g 2 _ (by decide) (hc3 2 _ rfl), g 3 _ (by decide) (hc3 3 _ rfl), g 4 _ (by decide) (hc3 4 _ rfl)⟩
theorem groupc {l : List Rr} {r : List SP × Int} (h : groupF l = some r) {A : Option Addr} (c : Nat) {w : World} (hR : RCells w A l) :
    Calls Try.prog 10 #[.slice A l.length c] w fun e w' => ∃ v ss, r.1 = ss.map SV.p ∧ e = .returned (.tuple #[v, .int .i64 r.2]) ∧ Sets w' w.heap.size v ss ∧ Below w.heap.size w w' := by
  unfold groupF at h
  split at h
  · rename_i hf
    obtain rfl := Option.some.inj h
    unfold fitG at hf
    rw [List.all_eq_true] at hf
    have hk : Calls Try.prog 10 #[.slice A l.length c] w fun e w' => GPost l w e w' := by
      by_cases h64 : l.length ≤ 64
      · exact group1 l A c w hR (fun x hx => by simpa using hf x hx) (by omega)
      · exact groupLong l A c w h64
    refine hk.mono ?_
    rintro e w' (⟨h1, rfl, hb⟩ | ⟨v, ss, h1, rfl, hS, hb⟩)
    · refine ⟨.slice none 0 0, [], ?_, ?_, Sets.start _ _, hb⟩ <;> (unfold groupV; rw [h1]) <;> rfl
    · refine ⟨v, ss, ?_, ?_, hS, hb⟩ <;> (unfold groupV; rw [h1])
  · cases h
theorem reps_cons {α : Type} {R : α → List Value → Prop} {size : Nat} {ps : List α} {cs c : List Value} {p : α} (hp : R p c) (hc : c.length = size) (h : Reps R size ps cs) : Reps R size (p :: ps) (c ++ cs) := by
  refine ⟨by rw [List.length_append, h.1, hc, List.length_cons, Nat.add_mul, Nat.one_mul, Nat.add_comm], fun j q hq => ?_⟩
  cases j with
  | zero =>
    obtain rfl : p = q := by simpa using hq
    rw [Nat.zero_mul, List.drop_zero, ← hc, List.take_left']
    · exact hp
    · rfl
  | succ j =>
    have := h.2 j q (by simpa using hq)
    have e : (c ++ cs).drop ((j + 1) * size) = cs.drop (j * size) := by
      rw [Nat.add_mul, Nat.one_mul, Nat.add_comm, ← List.drop_drop, ← hc, List.drop_left']
      rfl
    rw [e]
    exact this
theorem strs_reps {w : World} {base : Nat} {ok : Nat → Prop} : ∀ (ds : List ByteArray), Reps (Kd.string.M w base ok) 1 ds (ds.map Value.string)
  | [] => Reps.none _ _
  | d :: ds => reps_cons (c := [.string d]) rfl rfl (strs_reps ds)
theorem strs_row {w : World} {base : Nat} {ok : Nat → Prop} {dv : Value} {ds : List ByteArray} (h : w.ownsRow base 9 1 dv ds.length (ds.map Value.string)) (hok : ∀ k, dv.ownBlock = some k → ok k) : Kd.string.R 9 w base ok dv ds := ⟨hok, ds.map Value.string, h, strs_reps ds⟩
end Go.Proofs.Ythlajjcdmhgcmaa.Gr

namespace Go.Proofs.Ythlajjcdmhgcmaa.Gr
open Go.RowKit Go.PlainAid Go.Proofs.Ythlajjcdmhgcmaa.Base
set_option linter.unusedVariables false
def Up (l : List ByteArray) : Prop := l.Pairwise (fun x y => bl x < bl y)
theorem lt_irr (x : List UInt8) : ¬ x < x := List.lt_irrefl x
theorem lt_asy {x y : List UInt8} (h : x < y) : ¬ y < x := fun k => lt_irr x (List.lt_trans h k)
theorem up_unique : ∀ {l1 l2 : List ByteArray}, Up l1 → Up l2 → (∀ x, x ∈ l1 ↔ x ∈ l2) → l1 = l2
  | [], [], _, _, _ => rfl
  | [], b :: t2, _, _, hm => by have := (hm b).2 List.mem_cons_self; simp at this
  | a :: t1, [], _, _, hm => by have := (hm a).1 List.mem_cons_self; simp at this
  | a :: t1, b :: t2, h1, h2, hm => by
    obtain ⟨ha, h1'⟩ := List.pairwise_cons.1 h1
    obtain ⟨hb, h2'⟩ := List.pairwise_cons.1 h2
    have hab : a = b := by
      rcases List.mem_cons.1 ((hm a).1 List.mem_cons_self) with e | e
      · exact e
      · rcases List.mem_cons.1 ((hm b).2 List.mem_cons_self) with e' | e'
        · exact e'.symm
        · exact absurd (hb a e) (lt_asy (ha b e'))
    subst hab
    congr 1
    refine up_unique h1' h2' (fun x => ⟨fun hx => ?_, fun hx => ?_⟩)
    · rcases List.mem_cons.1 ((hm x).1 (List.mem_cons_of_mem _ hx)) with e | e
      · subst e; exact absurd (ha x hx) (lt_irr _)
      · exact e
    · rcases List.mem_cons.1 ((hm x).2 (List.mem_cons_of_mem _ hx)) with e | e
      · subst e; exact absurd (hb x hx) (lt_irr _)
      · exact e
theorem normD_up (ds : List ByteArray) : Up (normD ds) := (normD_pairwise ds).1
theorem mem_normD (ds : List ByteArray) (x : ByteArray) : x ∈ normD ds ↔ x ∈ ds := (normD_pairwise ds).2 x
theorem normD_eq {ds l : List ByteArray} (h : Up l) (hm : ∀ x, x ∈ l ↔ x ∈ ds) : normD ds = l := up_unique (normD_up ds) h (fun x => (mem_normD ds x).trans (hm x).symm)
theorem up_nodup {l : List ByteArray} (h : Up l) : l.Nodup := by
  unfold List.Nodup
  refine List.Pairwise.imp ?_ h
  intro a b hab e
  subst e
  exact lt_irr _ hab
theorem nodup_len {α : Type} [DecidableEq α] : ∀ {l1 l2 : List α}, l1.Nodup → (∀ x ∈ l1, x ∈ l2) → l1.length ≤ l2.length
  | [], l2, _, _ => Nat.zero_le _
  | a :: t, l2, h, hm => by
    obtain ⟨ha, ht⟩ := List.nodup_cons.1 h
    have h1 : (l2.erase a).length = l2.length - 1 := List.length_erase_of_mem (hm a List.mem_cons_self)
    have h2 : 0 < l2.length := List.length_pos_of_mem (hm a List.mem_cons_self)
    have := nodup_len (l2 := l2.erase a) ht (fun x hx => (List.mem_erase_of_ne (fun e => ha (by rw [← e]; exact hx))).2 (hm x (List.mem_cons_of_mem _ hx)))
    rw [List.length_cons]
    omega
theorem groupV_bad {l : List Rr} (h : ¬ (l.length ≤ 64 ∧ l.all okG = true)) : groupV l = ([], 1100) := by unfold groupV; rw [groupS_bad h]
theorem groupV_ok {l : List Rr} (h : l.length ≤ 64) (k : l.all okG = true) : groupV l = ((l.foldl stepG []).map normP, 0) := by unfold groupV; rw [groupS_ok h k]
theorem groupF_of {l : List Rr} (h : fitG l = true) : groupF l = some (groupV l) := if_pos h
end Go.Proofs.Ythlajjcdmhgcmaa.Gr

namespace Go.Proofs.Ythlajjcdmhgcmaa.NF
open Go.RowKit Go.PlainAid Go.Proofs.Ythlajjcdmhgcmaa.Base Go.Proofs.Ythlajjcdmhgcmaa.Nm Go.Proofs.Ythlajjcdmhgcmaa.Fo
set_option linter.unusedVariables false
theorem low_bt (s : ByteArray) (i : Nat) (h : i < s.size) : bt (foldS s) i = if 65 ≤ bt s i ∧ bt s i ≤ 90 then bt s i + 32 else bt s i := by
  have hl : i < s.data.toList.length := by rw [len_data]; exact h
  rw [bt_data, bt_data]
  have e : (foldS s).data.toList.getD i 0 = lowB (s.data.toList.getD i 0) := by
    show ((s.data.toList.map lowB).toArray).toList.getD i 0 = _
    rw [List.getD_eq_getElem?_getD, List.getD_eq_getElem?_getD]
    simp only [List.getElem?_map]
    rw [List.getElem?_eq_getElem hl]
    rfl
  rw [e, low_nat]
  generalize (s.data.toList.getD i 0).toNat = x
  by_cases hx : 65 ≤ x ∧ x ≤ 90
  · rw [if_pos hx, if_pos (by omega)]; omega
  · rw [if_neg hx, if_neg (by omega)]
theorem fold_at (s : ByteArray) : ∀ d i, s.size - i ≤ d → nameAt (foldS s) i = nameAt s i := by
  intro d
  induction d with
  | zero => intro i hd; rw [nameAt_out (s := s) (by omega), nameAt_out (s := foldS s) (by rw [foldS_size]; omega)]
  | succ d ih =>
    intro i hd
    by_cases hi : i < s.size
    · have hi' : i < (foldS s).size := by rw [foldS_size]; exact hi
      have hb := low_bt s i hi
      have hn := bt_nonneg s i
      by_cases h0 : bt s i = 0
      · rw [h0, if_neg (by omega)] at hb
        rw [nameAt_end hi h0, nameAt_end hi' hb, foldS_size]
      · by_cases h1 : bt s i ≤ 63
        · rw [if_neg (by omega)] at hb
          rw [nameAt_next hi h0 h1, nameAt_next hi' (by rw [hb]; exact h0) (by rw [hb]; exact h1), hb]
          exact ih _ (by omega)
        · rw [nameAt_bad hi (by omega), nameAt_bad hi' (by rw [hb]; split <;> omega)]
    · rw [nameAt_out (s := s) (by omega), nameAt_out (s := foldS s) (by rw [foldS_size]; omega)]
theorem fold_name {s : ByteArray} (h : nameB s = true) : nameB (foldN s) = true ∧ (foldN s).size = s.size := by
  unfold foldN
  rw [if_pos h]
  refine ⟨?_, foldS_size s⟩
  unfold nameB at h ⊢
  rw [foldS_size, fold_at s s.size 0 (by omega)]
  exact h
theorem low_low (x : UInt8) : lowB (lowB x) = lowB x := by
  apply UInt8.toNat_inj.1
  rw [low_nat (lowB x), low_nat x]
  by_cases h : 65 ≤ x.toNat ∧ x.toNat ≤ 90
  · rw [if_pos h, if_neg (by omega)]
  · rw [if_neg h, if_neg h]
theorem fold_fold {s : ByteArray} (h : nameB s = true) : foldN (foldN s) = foldN s := by
  have hn := (fold_name h).1
  unfold foldN at hn ⊢
  rw [if_pos h] at hn ⊢
  rw [if_pos hn]
  unfold foldS
  congr 2
  rw [List.map_map]
  exact List.map_congr_left (fun x _ => low_low x)
end Go.Proofs.Ythlajjcdmhgcmaa.NF

namespace Go.Proofs.Ythlajjcdmhgcmaa.Gr
open Go.RowKit Go.PlainAid Go.Proofs.Ythlajjcdmhgcmaa.Base
open Go.Proofs.Ythlajjcdmhgcmaa.Fo (foldN)
open Go.Proofs.Ythlajjcdmhgcmaa.Nm (nameB)
set_option linter.unusedVariables false
structure GoodP (s : SP) : Prop where
  name : nameB s.name = true
  fold : foldN s.name = s.name
  t0 : 0 ≤ s.ttl
  t1 : s.ttl ≤ 86400
  may : ∀ d ∈ s.datas, Rd.mayD s.type d = true
  some_ : s.datas ≠ []
theorem okG_parts {r : Rr} (h : okG r = true) : nameB r.name = true ∧ 0 ≤ r.ttl ∧ r.ttl ≤ 4294967295 ∧ Rd.mayD r.type r.data = true := by
  unfold okG at h
  simp only [Bool.and_eq_true, decide_eq_true_eq] at h
  exact ⟨h.1.1.1, h.1.1.2, h.1.2, h.2⟩
theorem putIn_good {n : ByteArray} {t l : Int} {d : ByteArray} (hn : nameB n = true) (hf : foldN n = n) (h0 : 0 ≤ l) (hd : Rd.mayD t d = true) (m : Nat) : ∀ {ss : List SP}, (∀ s ∈ ss, GoodP s ∧ s.datas.length ≤ m) → ∀ s ∈ putIn n t l d ss, GoodP s ∧ s.datas.length ≤ m + 1
  | [], _, s, hs => by
    unfold putIn at hs
    obtain rfl := List.mem_singleton.1 hs
    exact ⟨⟨hn, hf, by show 0 ≤ min 86400 l; omega, by show min 86400 l ≤ 86400; omega, fun x hx => by rw [List.mem_singleton.1 hx]; exact hd, by simp⟩, by simp⟩
  | x :: ss, h, s, hs => by
    have hx := h x List.mem_cons_self
    unfold putIn at hs
    split at hs
    · rename_i hk
      rcases List.mem_cons.1 hs with rfl | hs
      · refine ⟨⟨hx.1.name, hx.1.fold, ?_, ?_, ?_, by simp⟩, ?_⟩
        · have := hx.1.t0; show 0 ≤ min x.ttl l; omega
        · have := hx.1.t1; show min x.ttl l ≤ 86400; omega
        · intro y hy
          rcases List.mem_append.1 hy with hy | hy
          · exact hx.1.may y hy
          · rw [List.mem_singleton.1 hy]; show Rd.mayD x.type d = true; rw [hk.2]; exact hd
        · show (x.datas ++ [d]).length ≤ m + 1
          rw [List.length_append, List.length_singleton]; have := hx.2; omega
      · have := h s (List.mem_cons_of_mem _ hs); exact ⟨this.1, by omega⟩
    · rcases List.mem_cons.1 hs with rfl | hs
      · exact ⟨hx.1, by omega⟩
      · exact putIn_good hn hf h0 hd m (fun y hy => h y (List.mem_cons_of_mem _ hy)) s hs
theorem fold_good : ∀ (l : List Rr) (ss : List SP) (m : Nat), l.all okG = true → (∀ s ∈ ss, GoodP s ∧ s.datas.length ≤ m) → ∀ s ∈ l.foldl stepG ss, GoodP s ∧ s.datas.length ≤ m + l.length
  | [], ss, m, _, h, s, hs => h s hs
  | r :: l, ss, m, ho, h, s, hs => by
    rw [List.all_cons, Bool.and_eq_true] at ho
    obtain ⟨a, b, c, d⟩ := okG_parts ho.1
    have h1 : ∀ s ∈ stepG ss r, GoodP s ∧ s.datas.length ≤ m + 1 := by
      unfold stepG
      split
      · exact putIn_good (NF.fold_name a).1 (NF.fold_fold a) b d m h
      · exact fun s hs => ⟨(h s hs).1, by have := (h s hs).2; omega⟩
    have := fold_good l (stepG ss r) (m + 1) ho.2 h1 s hs
    exact ⟨this.1, by rw [List.length_cons]; omega⟩
theorem norm_good {s : SP} {m : Nat} (h : GoodP s ∧ s.datas.length ≤ m) : GoodP (normP s) ∧ (normP s).datas.length ≤ m ∧ Up (normP s).datas := by
  refine ⟨⟨h.1.name, h.1.fold, h.1.t0, h.1.t1, fun d hd => h.1.may d ((mem_normD _ _).1 hd), ?_⟩, ?_, normD_up _⟩
  · intro e
    cases hd : s.datas with
    | nil => exact h.1.some_ hd
    | cons d ds =>
      have : d ∈ normD s.datas := (mem_normD _ _).2 (by rw [hd]; exact List.mem_cons_self)
      have e2 : normD s.datas = [] := e
      rw [e2] at this
      simp at this
  · exact Nat.le_trans (nodup_len (up_nodup (normD_up _)) (fun x hx => (mem_normD _ _).1 hx)) h.2
/-- Every set that Group tells. -/
theorem groupV_good {l : List Rr} (h64 : l.length ≤ 64) (ho : l.all okG = true) : ∀ s ∈ (groupV l).1, GoodP s ∧ s.datas.length ≤ 64 ∧ Up s.datas := by
  intro s hs
  rw [groupV_ok h64 ho] at hs
  obtain ⟨x, hx, rfl⟩ := List.mem_map.1 hs
  have := norm_good (fold_good l [] 0 ho (fun s hs => by simp at hs) x hx)
  exact ⟨this.1, by omega, this.2.2⟩
end Go.Proofs.Ythlajjcdmhgcmaa.Gr

namespace Go.Proofs.Ythlajjcdmhgcmaa.Gr
open Go.RowKit Go.PlainAid Go.Proofs.Ythlajjcdmhgcmaa.Base
open Go.Proofs.Ythlajjcdmhgcmaa.Fo (foldN)
set_option linter.unusedVariables false
def SP.key (s : SP) : ByteArray × Int := (s.name, s.type)
def Rr.key (r : Rr) : ByteArray × Int := (foldN r.name, r.type)
def keys (ss : List SP) : List (ByteArray × Int) := ss.map SP.key
theorem keys_putIn (n : ByteArray) (t l : Int) (d : ByteArray) : ∀ ss : List SP, ((n, t) ∈ keys ss ∧ keys (putIn n t l d ss) = keys ss) ∨ ((n, t) ∉ keys ss ∧ keys (putIn n t l d ss) = keys ss ++ [(n, t)])
  | [] => .inr ⟨by simp [keys], by simp [putIn, keys, SP.key]⟩
  | x :: ss => by
    unfold putIn
    by_cases h : x.name = n ∧ x.type = t
    · have hk : x.key = (n, t) := Prod.ext h.1 h.2
      rw [if_pos h]
      exact .inl ⟨by show (n, t) ∈ x.key :: keys ss; rw [hk]; exact List.mem_cons_self, rfl⟩
    · have hk : x.key ≠ (n, t) := fun e => h ⟨congrArg Prod.fst e, congrArg Prod.snd e⟩
      rw [if_neg h]
      show ((n, t) ∈ x.key :: keys ss ∧ x.key :: keys (putIn n t l d ss) = x.key :: keys ss) ∨ ((n, t) ∉ x.key :: keys ss ∧ x.key :: keys (putIn n t l d ss) = (x.key :: keys ss) ++ [(n, t)])
      rcases keys_putIn n t l d ss with ⟨hm, e⟩ | ⟨hm, e⟩
      · exact .inl ⟨List.mem_cons_of_mem _ hm, by rw [e]⟩
      · exact .inr ⟨by intro q; rcases List.mem_cons.1 q with q | q; exact hk q.symm; exact hm q, by rw [e]; rfl⟩
theorem mem_putIn {n : ByteArray} {t l : Int} {d : ByteArray} {s : SP} : ∀ {ss : List SP}, (keys ss).Nodup → s ∈ putIn n t l d ss →
    (s ∈ ss ∧ s.key ≠ (n, t)) ∨ (∃ s0 ∈ ss, s0.key = (n, t) ∧ s = ⟨s0.name, s0.type, min s0.ttl l, s0.datas ++ [d]⟩) ∨ ((∀ s0 ∈ ss, s0.key ≠ (n, t)) ∧ s = ⟨n, t, min 86400 l, [d]⟩)
  | [], _, h => by
    unfold putIn at h
    exact .inr (.inr ⟨fun s0 h0 => by simp at h0, List.mem_singleton.1 h⟩)
  | x :: ss, hn, h => by
    have hn' : x.key ∉ keys ss ∧ (keys ss).Nodup := List.nodup_cons.1 hn
    unfold putIn at h
    by_cases hx : x.name = n ∧ x.type = t
    · have hk : x.key = (n, t) := Prod.ext hx.1 hx.2
      rw [if_pos hx] at h
      rcases List.mem_cons.1 h with rfl | h
      · exact .inr (.inl ⟨x, List.mem_cons_self, hk, rfl⟩)
      · refine .inl ⟨List.mem_cons_of_mem _ h, fun e => hn'.1 ?_⟩
        rw [hk, ← e]
        exact List.mem_map.2 ⟨s, h, rfl⟩
    · have hk : x.key ≠ (n, t) := fun e => hx ⟨congrArg Prod.fst e, congrArg Prod.snd e⟩
      rw [if_neg hx] at h
      rcases List.mem_cons.1 h with rfl | h
      · exact .inl ⟨List.mem_cons_self, hk⟩
      · rcases mem_putIn hn'.2 h with ⟨a, b⟩ | ⟨s0, a, b, c⟩ | ⟨a, b⟩
        · exact .inl ⟨List.mem_cons_of_mem _ a, b⟩
        · exact .inr (.inl ⟨s0, List.mem_cons_of_mem _ a, b, c⟩)
        · refine .inr (.inr ⟨fun s0 h0 => ?_, b⟩)
          rcases List.mem_cons.1 h0 with rfl | h0
          · exact hk
          · exact a s0 h0
/-- A record of the list that goes into a set. -/
def Goes (l : List Rr) (k : ByteArray × Int) (r : Rr) : Prop := r ∈ l ∧ r.cls = 1 ∧ r.key = k
structure Spec (l : List Rr) (ss : List SP) : Prop where
  nodup : (keys ss).Nodup
  has : ∀ k, k ∈ keys ss ↔ ∃ r, Goes l k r
  ttl0 : ∀ s ∈ ss, s.ttl ≤ 86400 ∧ ∀ r, Goes l s.key r → s.ttl ≤ r.ttl
  ttl1 : ∀ s ∈ ss, s.ttl = 86400 ∨ ∃ r, Goes l s.key r ∧ s.ttl = r.ttl
  data : ∀ s ∈ ss, ∀ d, d ∈ s.datas ↔ ∃ r, Goes l s.key r ∧ r.data = d
theorem Spec.nil : Spec [] [] := ⟨List.nodup_nil, fun k => by simp [keys, Goes], fun s h => by simp at h, fun s h => by simp at h, fun s h => by simp at h⟩
theorem goes_snoc {l : List Rr} {r x : Rr} {k : ByteArray × Int} : Goes (l ++ [r]) k x ↔ Goes l k x ∨ (x = r ∧ r.cls = 1 ∧ r.key = k) := by
  unfold Goes
  constructor
  · rintro ⟨h, c, e⟩
    rcases List.mem_append.1 h with h | h
    · exact .inl ⟨h, c, e⟩
    · obtain rfl := List.mem_singleton.1 h
      exact .inr ⟨rfl, c, e⟩
  · rintro (⟨h, c, e⟩ | ⟨rfl, c, e⟩)
    · exact ⟨List.mem_append_left _ h, c, e⟩
    · exact ⟨List.mem_append_right _ (List.mem_singleton.2 rfl), c, e⟩
theorem Spec.step {l : List Rr} {ss : List SP} (h : Spec l ss) (r : Rr) : Spec (l ++ [r]) (stepG ss r) := by
  unfold stepG
  by_cases hc : r.cls = 1
  case neg =>
    rw [if_neg hc]
    have e : ∀ k x, Goes (l ++ [r]) k x ↔ Goes l k x := fun k x => goes_snoc.trans ⟨fun h => h.elim id (fun q => absurd q.2.1 hc), .inl⟩
    refine ⟨h.nodup, fun k => ?_, fun s hs => ⟨(h.ttl0 s hs).1, fun x hx => (h.ttl0 s hs).2 x ((e _ _).1 hx)⟩, fun s hs => ?_, fun s hs d => ?_⟩
    · simp only [e]; exact h.has k
    · simp only [e]; exact h.ttl1 s hs
    · simp only [e]; exact h.data s hs d
  rw [if_pos hc]
  have hk := keys_putIn (foldN r.name) r.type r.ttl r.data ss
  have hrk : r.key = (foldN r.name, r.type) := rfl
  have own : Goes (l ++ [r]) r.key r := goes_snoc.2 (.inr ⟨rfl, hc, rfl⟩)
  refine ⟨?_, ?_, ?_, ?_, ?_⟩
  · rcases hk with ⟨hm, e⟩ | ⟨hm, e⟩
    · rw [e]; exact h.nodup
    · rw [e]
      refine List.nodup_append.2 ⟨h.nodup, List.pairwise_singleton _ _, fun a ha b hb e => hm ?_⟩
      rw [← List.mem_singleton.1 hb, ← e]; exact ha
  · intro k
    constructor
    · intro hx
      have : k ∈ keys ss ∨ k = r.key := by
        rcases hk with ⟨hm, e⟩ | ⟨hm, e⟩ <;> rw [e] at hx
        · exact .inl hx
        · rcases List.mem_append.1 hx with hx | hx
          · exact .inl hx
          · exact .inr (List.mem_singleton.1 hx)
      rcases this with hx | rfl
      · obtain ⟨x, hx⟩ := (h.has k).1 hx
        exact ⟨x, goes_snoc.2 (.inl hx)⟩
      · exact ⟨r, own⟩
    · rintro ⟨x, hx⟩
      rcases goes_snoc.1 hx with hx | ⟨rfl, _, rfl⟩
      · have := (h.has k).2 ⟨x, hx⟩
        rcases hk with ⟨hm, e⟩ | ⟨hm, e⟩ <;> rw [e]
        · exact this
        · exact List.mem_append_left _ this
      · rcases hk with ⟨hm, e⟩ | ⟨hm, e⟩ <;> rw [e]
        · exact hm
        · exact List.mem_append_right _ (List.mem_singleton.2 rfl)
  · intro s hs
    rcases mem_putIn h.nodup hs with ⟨a, b⟩ | ⟨s0, a, b, rfl⟩ | ⟨a, rfl⟩
    · refine ⟨(h.ttl0 s a).1, fun x hx => ?_⟩
      rcases goes_snoc.1 hx with hx | ⟨_, _, q⟩
      · exact (h.ttl0 s a).2 x hx
      · exact absurd q.symm b
    · have h0 := h.ttl0 s0 a
      refine ⟨by show min s0.ttl r.ttl ≤ 86400; have := h0.1; omega, fun x hx => ?_⟩
      show min s0.ttl r.ttl ≤ x.ttl
      rcases goes_snoc.1 hx with hx | ⟨rfl, _, _⟩
      · have := h0.2 x hx; omega
      · omega
    · refine ⟨by show min 86400 r.ttl ≤ 86400; omega, fun x hx => ?_⟩
      show min 86400 r.ttl ≤ x.ttl
      rcases goes_snoc.1 hx with hx | ⟨rfl, _, _⟩
      · have := (h.has _).2 ⟨x, hx⟩
        obtain ⟨s0, h0, e0⟩ := List.mem_map.1 this
        exact absurd e0 (a s0 h0)
      · omega
  · intro s hs
    rcases mem_putIn h.nodup hs with ⟨a, b⟩ | ⟨s0, a, b, rfl⟩ | ⟨a, rfl⟩
    · rcases h.ttl1 s a with e | ⟨x, hx, e⟩
      · exact .inl e
      · exact .inr ⟨x, goes_snoc.2 (.inl hx), e⟩
    · have hk0 : (⟨s0.name, s0.type, min s0.ttl r.ttl, s0.datas ++ [r.data]⟩ : SP).key = r.key := b
      by_cases hm : r.ttl ≤ s0.ttl
      · exact .inr ⟨r, by rw [hk0]; exact own, by show min s0.ttl r.ttl = r.ttl; omega⟩
      · have e0 : min s0.ttl r.ttl = s0.ttl := by omega
        rcases h.ttl1 s0 a with e | ⟨x, hx, e⟩
        · exact .inl (by show min s0.ttl r.ttl = 86400; omega)
        · exact .inr ⟨x, goes_snoc.2 (.inl hx), by show min s0.ttl r.ttl = x.ttl; omega⟩
    · by_cases hm : r.ttl ≤ 86400
      · exact .inr ⟨r, own, by show min 86400 r.ttl = r.ttl; omega⟩
      · exact .inl (by show min 86400 r.ttl = 86400; omega)
  · intro s hs d
    rcases mem_putIn h.nodup hs with ⟨a, b⟩ | ⟨s0, a, b, rfl⟩ | ⟨a, rfl⟩
    · rw [h.data s a d]
      exact ⟨fun ⟨x, hx, e⟩ => ⟨x, goes_snoc.2 (.inl hx), e⟩, fun ⟨x, hx, e⟩ => by
        rcases goes_snoc.1 hx with hx | ⟨_, _, q⟩
        · exact ⟨x, hx, e⟩
        · exact absurd q.symm b⟩
    · have hk0 : (⟨s0.name, s0.type, min s0.ttl r.ttl, s0.datas ++ [r.data]⟩ : SP).key = r.key := b
      show d ∈ s0.datas ++ [r.data] ↔ _
      rw [List.mem_append, List.mem_singleton, h.data s0 a d, hk0]
      have hb : s0.key = r.key := b
      rw [hb]
      constructor
      · rintro (⟨x, hx, e⟩ | rfl)
        · exact ⟨x, goes_snoc.2 (.inl hx), e⟩
        · exact ⟨r, own, rfl⟩
      · rintro ⟨x, hx, e⟩
        rcases goes_snoc.1 hx with hx | ⟨rfl, _, _⟩
        · exact .inl ⟨x, hx, e⟩
        · exact .inr e.symm
    · show d ∈ [r.data] ↔ _
      rw [List.mem_singleton]
      constructor
      · rintro rfl; exact ⟨r, own, rfl⟩
      · rintro ⟨x, hx, e⟩
        rcases goes_snoc.1 hx with hx | ⟨rfl, _, _⟩
        · have := (h.has _).2 ⟨x, hx⟩
          obtain ⟨s0, h0, e0⟩ := List.mem_map.1 this
          exact absurd e0 (a s0 h0)
        · exact e.symm
theorem spec_from : ∀ (l p : List Rr) (ss : List SP), Spec p ss → Spec (p ++ l) (l.foldl stepG ss)
  | [], p, ss, h => by rw [List.append_nil]; exact h
  | r :: l, p, ss, h => by
    have := spec_from l (p ++ [r]) (stepG ss r) (h.step r)
    rw [List.append_assoc] at this
    exact this
theorem spec (l : List Rr) : Spec l (l.foldl stepG []) := spec_from l [] [] Spec.nil
theorem Spec.len {l : List Rr} {ss tt : List SP} (h : Spec l ss) (k : Spec l tt) : ss.length = tt.length := by
  have a := nodup_len h.nodup (l2 := keys tt) (fun x hx => (k.has x).2 ((h.has x).1 hx))
  have b := nodup_len k.nodup (l2 := keys ss) (fun x hx => (h.has x).2 ((k.has x).1 hx))
  unfold keys at a b
  rw [List.length_map, List.length_map] at a b
  omega
end Go.Proofs.Ythlajjcdmhgcmaa.Gr

namespace Go.Proofs.Ythlajjcdmhgcmaa.Oct
open Go.RowKit Go.PlainAid Go.Proofs.Ythlajjcdmhgcmaa.Base
set_option linter.unusedVariables false

/-! ### string(make([]byte, n)) -/
def zeros (m : Nat) : ByteArray := strOfNums (List.replicate m 0)
theorem zeros_size (m : Nat) : (zeros m).size = m := by simp [zeros, strOfNums_size]
theorem info_u8 : (Try.prog.info? 5).map (fun i => (i.zero, i.size, i.bytes)) = some (some (.int .u8 0), 1, 1) := by kernel_rfl
theorem make_zeros (m : Nat) (hm : m ≤ 281474976710656) (W : World) : (Instr.makeSlice 55 (.int .i64 (m : Int)) (.int .i64 (m : Int))).run Try.prog W = .ok (.slice (some ⟨W.heap.size, 0, none⟩) m m) (W.alloc (.cells (madeCells #[.int .u8 0] m) 5)) :=
  run_make_row' 55 5 (.int .u8 0) 1 Try.underlying55 info_u8 rfl .i64 .i64 m (by omega) (by omega) W
end Go.Proofs.Ythlajjcdmhgcmaa.Oct

namespace Go.Proofs.Ythlajjcdmhgcmaa.Sp
open Go.RowKit Go.PlainAid Go.Proofs.Ythlajjcdmhgcmaa.Base Go.Proofs.Ythlajjcdmhgcmaa.Gr
open Go.Proofs.Ythlajjcdmhgcmaa.Fo (foldN)
open Go.Proofs.Ythlajjcdmhgcmaa.Oct (zeros)
set_option linter.unusedVariables false
def nm (k : Nat) : ByteArray := if k = 0 then ⟨#[1, 97, 0]⟩ else if k = 1 then ⟨#[1, 65, 0]⟩ else if k = 2 then ⟨#[1, 98, 0]⟩ else ⟨#[0]⟩
def mk (k : Nat) : Nat := if k = 0 then 0 else if k = 1 then 0 else if k = 2 then 1 else 2
def ty (t : Nat) : Int := if t = 0 then 1 else 28
def zc (t : Nat) : Nat := if t = 0 then 3 else 15
def dat (t d : Nat) : ByteArray := zeros (zc t) ++ strOfNums [(d : Int)]
def kN (p : Int) : Nat := (p % 4).toNat
def tN (p : Int) : Nat := (p / 4 % 2).toNat
def dN (p : Int) : Nat := (p / 8 % 4).toNat
theorem kN_lt (p : Int) : kN p < 4 := by unfold kN; omega
theorem tN_lt (p : Int) : tN p < 2 := by unfold tN; omega
theorem dN_lt (p : Int) : dN p < 4 := by unfold dN; omega
def i6 (p : Int) : Nat := mk (kN p) * 2 + tN p
def i24 (p : Int) : Nat := i6 p * 4 + dN p
def rec_ (p : Int) : Rr := ⟨nm (kN p), ty (tN p), 1, 9, dat (tN p) (dN p)⟩
def rows (l : List Int) (n : Nat) : List Rr := (List.range n).map fun i => rec_ (l.getD i 0)
def there (l : List Int) : Nat → List Bool
  | 0 => List.replicate 6 false
  | n + 1 => (there l n).set (i6 (l.getD n 0)) true
def seen (l : List Int) : Nat → List Bool
  | 0 => List.replicate 24 false
  | n + 1 => (seen l n).set (i24 (l.getD n 0)) true
theorem there_len (l : List Int) : ∀ n, (there l n).length = 6
  | 0 => rfl
  | n + 1 => by unfold there; rw [List.length_set, there_len l n]
theorem seen_len (l : List Int) : ∀ n, (seen l n).length = 24
  | 0 => rfl
  | n + 1 => by unfold seen; rw [List.length_set, seen_len l n]
theorem mk_lt (k : Nat) : mk k < 3 := by unfold mk; split; omega; split; omega; split <;> omega
theorem i6_lt (p : Int) : i6 p < 6 := by have := mk_lt (kN p); have := tN_lt p; unfold i6; omega
theorem i24_lt (p : Int) : i24 p < 24 := by have := i6_lt p; have := dN_lt p; unfold i24; omega
theorem set_true {L : List Bool} {i q : Nat} (hi : i < L.length) : (L.set i true).getD q false = true ↔ q = i ∨ L.getD q false = true := by
  rw [List.getD_eq_getElem?_getD, List.getD_eq_getElem?_getD, List.getElem?_set]
  by_cases h : i = q
  · subst h; rw [if_pos rfl, if_pos hi]; simp
  · rw [if_neg h]
    constructor
    · exact .inr
    · rintro (e | e)
      · exact absurd e.symm h
      · exact e
theorem rep_false (n q : Nat) : (List.replicate n false).getD q false = false := by
  rw [List.getD_eq_getElem?_getD, List.getElem?_replicate]
  split <;> rfl
theorem there_at (l : List Int) (q : Nat) : ∀ n, (there l n).getD q false = true ↔ ∃ i, i < n ∧ i6 (l.getD i 0) = q
  | 0 => by
    unfold there
    rw [rep_false]
    simp
  | n + 1 => by
    unfold there
    rw [set_true (by rw [there_len]; exact i6_lt _), there_at l q n]
    constructor
    · rintro (rfl | ⟨i, hi, e⟩)
      · exact ⟨n, by omega, rfl⟩
      · exact ⟨i, by omega, e⟩
    · rintro ⟨i, hi, e⟩
      by_cases h : i = n
      · subst h; exact .inl e.symm
      · exact .inr ⟨i, by omega, e⟩
theorem seen_at (l : List Int) (q : Nat) : ∀ n, (seen l n).getD q false = true ↔ ∃ i, i < n ∧ i24 (l.getD i 0) = q
  | 0 => by
    unfold seen
    rw [rep_false]
    simp
  | n + 1 => by
    unfold seen
    rw [set_true (by rw [seen_len]; exact i24_lt _), seen_at l q n]
    constructor
    · rintro (rfl | ⟨i, hi, e⟩)
      · exact ⟨n, by omega, rfl⟩
      · exact ⟨i, by omega, e⟩
    · rintro ⟨i, hi, e⟩
      by_cases h : i = n
      · subst h; exact .inl e.symm
      · exact .inr ⟨i, by omega, e⟩
theorem rows_len (l : List Int) (n : Nat) : (rows l n).length = n := by simp [rows]
theorem rows_succ (l : List Int) (n : Nat) : rows l (n + 1) = rows l n ++ [rec_ (l.getD n 0)] := by simp [rows, List.range_succ]
theorem rec_ok : ∀ k, k < 4 → ∀ t, t < 2 → ∀ d, d < 4 → okG ⟨nm k, ty t, 1, 9, dat t d⟩ = true ∧ (dat t d).size ≤ 16 := by decide +kernel
theorem rec_okG (p : Int) : okG (rec_ p) = true ∧ (rec_ p).data.size ≤ 16 := rec_ok _ (kN_lt p) _ (tN_lt p) _ (dN_lt p)
theorem rows_ok (l : List Int) (n : Nat) : (rows l n).all okG = true := by
  rw [List.all_eq_true]
  intro x hx
  obtain ⟨i, _, rfl⟩ := List.mem_map.1 hx
  exact (rec_okG _).1
theorem rows_fit (l : List Int) (n : Nat) : fitG (rows l n) = true := by
  unfold fitG
  rw [List.all_eq_true]
  intro x hx
  obtain ⟨i, _, rfl⟩ := List.mem_map.1 hx
  have := (rec_okG (l.getD i 0)).2
  exact decide_eq_true (by omega)
/-- The key of a place among the six. -/
def kq (q : Nat) : ByteArray × Int := (if q / 2 = 0 then ⟨#[1, 97, 0]⟩ else if q / 2 = 1 then ⟨#[1, 98, 0]⟩ else ⟨#[0]⟩, ty (q % 2))
theorem key_at : ∀ k, k < 4 → ∀ t, t < 2 → (foldN (nm k), ty t) = kq (mk k * 2 + t) := by decide +kernel
theorem key_rec (p : Int) : (rec_ p).key = kq (i6 p) := key_at _ (kN_lt p) _ (tN_lt p)
theorem kq_inj : ∀ a, a < 6 → ∀ b, b < 6 → kq a = kq b → a = b := by decide +kernel
theorem dat_inj : ∀ t, t < 2 → ∀ a, a < 4 → ∀ b, b < 4 → dat t a = dat t b → a = b := by decide +kernel
theorem cnt_range : ∀ L : List Bool, L.count true = ((List.range L.length).filter (fun q => L.getD q false)).length
  | [] => rfl
  | b :: L => by
    have e : ((List.range L.length).map Nat.succ).filter (fun q => (b :: L).getD q false) = ((List.range L.length).filter (fun q => L.getD q false)).map Nat.succ := by
      rw [List.filter_map]; rfl
    rw [List.length_cons, List.range_succ_eq_map, List.filter_cons, e, List.count_cons, cnt_range L]
    cases b <;> simp
/-- The count of one place's four. -/
def cnt (S : List Bool) (q : Nat) : Nat := ((S.drop (q * 4)).take 4).count true
theorem cnt_sum (S : List Bool) : ∀ k, ((List.range k).map (cnt S)).sum = (S.take (k * 4)).count true
  | 0 => by simp
  | k + 1 => by
    rw [List.range_succ, List.map_append, List.sum_append, cnt_sum S k, Nat.add_mul, Nat.one_mul, List.take_add, List.count_append]
    simp [cnt]
theorem block_at (S : List Bool) (q d : Nat) (hd : d < 4) : ((S.drop (q * 4)).take 4).getD d false = S.getD (q * 4 + d) false := by
  rw [List.getD_eq_getElem?_getD, List.getD_eq_getElem?_getD, List.getElem?_take, if_pos hd, List.getElem?_drop]
theorem cnt_zero {S : List Bool} {q : Nat} (h : ∀ d, d < 4 → S.getD (q * 4 + d) false = false) : cnt S q = 0 := by
  unfold cnt
  rw [List.count_eq_zero]
  intro hm
  obtain ⟨d, hd, e⟩ := List.mem_iff_getElem.1 hm
  have hd4 : d < 4 := by rw [List.length_take] at hd; omega
  have := block_at S q d hd4
  rw [h d hd4, List.getD_eq_getElem?_getD, List.getElem?_eq_getElem hd] at this
  rw [e] at this
  cases this
theorem perm_sum {l m : List Nat} (h : l.Perm m) : l.sum = m.sum := by
  induction h with
  | nil => rfl
  | cons x _ ih => rw [List.sum_cons, List.sum_cons, ih]
  | swap x y l => simp only [List.sum_cons]; omega
  | trans _ _ a b => rw [a, b]
theorem filter_sum (f : Nat → Nat) (p : Nat → Bool) : ∀ l : List Nat, (∀ q ∈ l, p q = false → f q = 0) → ((l.filter p).map f).sum = (l.map f).sum
  | [], _ => rfl
  | x :: l, h => by
    have ih := filter_sum f p l (fun q hq => h q (List.mem_cons_of_mem _ hq))
    rw [List.filter_cons]
    cases e : p x with
    | true => simp [ih]
    | false => simp [ih, h x List.mem_cons_self e]
theorem lift_keys : ∀ K : List (ByteArray × Int), (∀ k ∈ K, ∃ q, q < 6 ∧ kq q = k) → ∃ qs : List Nat, qs.map kq = K ∧ ∀ q ∈ qs, q < 6
  | [], _ => ⟨[], rfl, by simp⟩
  | k :: K, h => by
    obtain ⟨q, hq, e⟩ := h k List.mem_cons_self
    obtain ⟨qs, e2, h2⟩ := lift_keys K (fun x hx => h x (List.mem_cons_of_mem _ hx))
    refine ⟨q :: qs, by rw [List.map_cons, e, e2], fun x hx => ?_⟩
    rcases List.mem_cons.1 hx with rfl | hx
    · exact hq
    · exact h2 x hx
theorem zip_len {f : SP → Nat} {g : Nat → Nat} : ∀ (qs : List Nat) (ss : List SP), qs.map kq = keys ss → (∀ q ∈ qs, q < 6) → (∀ s ∈ ss, ∀ q, q < 6 → s.key = kq q → f s = g q) → ss.map f = qs.map g
  | [], [], _, _, _ => rfl
  | [], s :: ss, h, _, _ => by cases h
  | q :: qs, [], h, _, _ => by cases h
  | q :: qs, s :: ss, h, h6, H => by
    unfold keys at h
    rw [List.map_cons, List.map_cons] at h
    injection h with h1 h2
    rw [List.map_cons, List.map_cons, H s List.mem_cons_self q (h6 q List.mem_cons_self) h1.symm, zip_len qs ss h2 (fun x hx => h6 x (List.mem_cons_of_mem _ hx)) (fun x hx => H x (List.mem_cons_of_mem _ hx))]
theorem goes_at {l : List Int} {n q : Nat} (hq : q < 6) (r : Rr) : Goes (rows l n) (kq q) r ↔ ∃ i, i < n ∧ i6 (l.getD i 0) = q ∧ r = rec_ (l.getD i 0) := by
  unfold Goes
  constructor
  · rintro ⟨h, _, e⟩
    obtain ⟨i, hi, rfl⟩ := List.mem_map.1 h
    rw [key_rec] at e
    exact ⟨i, List.mem_range.1 hi, kq_inj _ (i6_lt _) _ hq e, rfl⟩
  · rintro ⟨i, hi, e, rfl⟩
    exact ⟨List.mem_map.2 ⟨i, List.mem_range.2 hi, rfl⟩, rfl, by rw [key_rec, e]⟩
theorem i24_iff {p : Int} {q d : Nat} (hd : d < 4) : i24 p = q * 4 + d ↔ i6 p = q ∧ dN p = d := by
  have := dN_lt p
  unfold i24
  omega
theorem t_of_i6 (p : Int) : tN p = i6 p % 2 := by have := tN_lt p; unfold i6; omega
/-- A set's data, once each, are as many as were seen. -/
theorem datas_cnt {l : List Int} {n q : Nat} (hq : q < 6) {ds : List ByteArray} (h : ∀ d, d ∈ ds ↔ ∃ r, Goes (rows l n) (kq q) r ∧ r.data = d) : (normD ds).length = cnt (seen l n) q := by
  have hb : cnt (seen l n) q = (((List.range 4).filter (fun d => (seen l n).getD (q * 4 + d) false)).map (dat (q % 2))).length := by
    unfold cnt
    have hl : (((seen l n).drop (q * 4)).take 4).length = 4 := by rw [List.length_take, List.length_drop, seen_len]; omega
    rw [cnt_range, hl, List.length_map]
    congr 1
    refine List.filter_congr (fun d hd => ?_)
    rw [block_at _ _ _ (List.mem_range.1 hd)]
  rw [hb]
  have hmem : ∀ x, x ∈ normD ds ↔ x ∈ ((List.range 4).filter (fun d => (seen l n).getD (q * 4 + d) false)).map (dat (q % 2)) := by
    intro x
    rw [mem_normD, h, List.mem_map]
    constructor
    · rintro ⟨r, hr, rfl⟩
      obtain ⟨i, hi, e, rfl⟩ := (goes_at hq r).1 hr
      refine ⟨dN (l.getD i 0), List.mem_filter.2 ⟨List.mem_range.2 (dN_lt _), ?_⟩, ?_⟩
      · rw [seen_at]
        exact ⟨i, hi, (i24_iff (dN_lt _)).2 ⟨e, rfl⟩⟩
      · show dat (q % 2) (dN (l.getD i 0)) = dat (tN (l.getD i 0)) (dN (l.getD i 0))
        rw [t_of_i6, e]
    · rintro ⟨d, hd, rfl⟩
      obtain ⟨hd4, hs⟩ := List.mem_filter.1 hd
      have hd4 := List.mem_range.1 hd4
      rw [seen_at] at hs
      obtain ⟨i, hi, e⟩ := hs
      obtain ⟨e1, e2⟩ := (i24_iff hd4).1 e
      refine ⟨rec_ (l.getD i 0), (goes_at hq _).2 ⟨i, hi, e1, rfl⟩, ?_⟩
      show dat (tN (l.getD i 0)) (dN (l.getD i 0)) = _
      rw [t_of_i6, e1, e2]
  have hnd : (((List.range 4).filter (fun d => (seen l n).getD (q * 4 + d) false)).map (dat (q % 2))).Nodup := by
    unfold List.Nodup
    rw [List.pairwise_map]
    refine List.Pairwise.imp_of_mem ?_ (List.Pairwise.filter _ List.nodup_range)
    intro a b ha hb hab e
    have ha := List.mem_range.1 (List.mem_filter.1 ha).1
    have hb := List.mem_range.1 (List.mem_filter.1 hb).1
    exact hab (dat_inj _ (by omega) a ha b hb e)
  exact Nat.le_antisymm (nodup_len (up_nodup (normD_up ds)) (fun x hx => (hmem x).1 hx)) (nodup_len hnd (fun x hx => (hmem x).2 hx))
theorem final (l : List Int) (n : Nat) (h : n ≤ 64) : ∃ ss : List SP, groupF (rows l n) = some (ss, 0) ∧ ss.length = (there l n).count true ∧ (ss.map (fun s => s.datas.length)).sum = (seen l n).count true ∧ ss.length ≤ 64 ∧ ∀ s ∈ ss, s.ttl = 9 ∧ foldN s.name = s.name ∧ s.datas.length ≤ 64 := by
  have hok := rows_ok l n
  have h64 : (rows l n).length ≤ 64 := by rw [rows_len]; exact h
  have hg := groupV_good h64 hok
  have S := spec (rows l n)
  rw [groupV_ok h64 hok] at hg
  refine ⟨_, by rw [groupF_of (rows_fit l n), groupV_ok h64 hok], ?_⟩
  generalize (rows l n).foldl Gr.stepG [] = ss0 at *
  obtain ⟨qs, hqs, hq6⟩ := lift_keys (keys ss0) (fun k hk => by
    obtain ⟨r, hr, hc, rfl⟩ := (S.has k).1 hk
    obtain ⟨i, _, rfl⟩ := List.mem_map.1 hr
    exact ⟨i6 (l.getD i 0), i6_lt _, (key_rec _).symm⟩)
  have hnd : qs.Nodup := by
    have := S.nodup
    rw [← hqs] at this
    unfold List.Nodup at this ⊢
    rw [List.pairwise_map] at this
    exact this.imp (fun h e => h (by rw [e]))
  have hperm : qs.Perm ((List.range 6).filter (fun q => (there l n).getD q false)) := by
    refine (List.perm_ext_iff_of_nodup hnd (List.Pairwise.filter _ List.nodup_range)).2 (fun q => ?_)
    rw [List.mem_filter, List.mem_range, there_at]
    constructor
    · intro hq
      have h6 := hq6 q hq
      have : kq q ∈ keys ss0 := by rw [← hqs]; exact List.mem_map.2 ⟨q, hq, rfl⟩
      obtain ⟨r, hr⟩ := (S.has _).1 this
      obtain ⟨i, hi, e, _⟩ := (goes_at h6 r).1 hr
      exact ⟨h6, i, hi, e⟩
    · rintro ⟨h6, i, hi, e⟩
      have : kq q ∈ keys ss0 := (S.has _).2 ⟨_, (goes_at h6 _).2 ⟨i, hi, e, rfl⟩⟩
      rw [← hqs] at this
      obtain ⟨q', hq', e'⟩ := List.mem_map.1 this
      rw [← kq_inj q' (hq6 q' hq') q h6 e']
      exact hq'
  have hlen : (ss0.map normP).length = qs.length := by
    rw [List.length_map]
    have := congrArg List.length hqs
    unfold keys at this
    rw [List.length_map, List.length_map] at this
    exact this.symm
  have hq0 : qs.length ≤ 6 := by
    rw [hperm.length_eq]
    exact Nat.le_trans (List.length_filter_le _ _) (by simp)
  refine ⟨?_, ?_, by omega, ?_⟩
  · rw [hlen, hperm.length_eq, cnt_range, there_len]
  · have e1 : (ss0.map normP).map (fun s => s.datas.length) = qs.map (cnt (seen l n)) := by
      rw [List.map_map]
      refine zip_len qs ss0 hqs hq6 (fun s hs q hq hk => ?_)
      show (normD s.datas).length = _
      refine datas_cnt hq (fun d => ?_)
      rw [S.data s hs d, hk]
    rw [e1, perm_sum (hperm.map _), filter_sum, cnt_sum, List.take_of_length_le (by rw [seen_len]; decide)]
    intro q hq hf
    have hq := List.mem_range.1 hq
    refine cnt_zero (fun d hd => ?_)
    cases hs : (seen l n).getD (q * 4 + d) false with
    | false => rfl
    | true =>
      rw [seen_at] at hs
      obtain ⟨i, hi, e⟩ := hs
      have := (there_at l q n).2 ⟨i, hi, ((i24_iff hd).1 e).1⟩
      rw [hf] at this
      cases this
  · intro s hs
    have hgs := hg s hs
    refine ⟨?_, hgs.1.fold, hgs.2.1⟩
    obtain ⟨x, hx, rfl⟩ := List.mem_map.1 hs
    obtain ⟨r, hr⟩ := (S.has x.key).1 (List.mem_map.2 ⟨x, hx, rfl⟩)
    have h9 : ∀ r, Goes (rows l n) x.key r → r.ttl = 9 := by
      intro r hr
      obtain ⟨i, _, rfl⟩ := List.mem_map.1 hr.1
      rfl
    have a := (S.ttl0 x hx).2 r hr
    rw [h9 r hr] at a
    rcases S.ttl1 x hx with e | ⟨y, hy, e⟩
    · omega
    · show x.ttl = 9
      rw [e, h9 y hy]
end Go.Proofs.Ythlajjcdmhgcmaa.Sp

namespace Go.Proofs.Ythlajjcdmhgcmaa.PAw
open Go.RowKit Go.Proofs.YthlajjcdmhgcmaaW.PrintWords Go.Proofs.YthlajjcdmhgcmaaW.PrintLast Go.Proofs.YthlajjcdmhgcmaaW.PrintMore
attribute [local go_sem] max2_int min2_int max_two min_two max_three min_three max_four min_four   -- for this text's walks alone
set_option linter.unusedVariables false
set_option linter.unusedSimpArgs false

def errW : Option Int → Value
  | none => .nilIface
  | some c => .iface 0 (.int .i64 c)
theorem errW_none : errW none = .nilIface := rfl
theorem errW_some (c : Int) : errW (some c) = .iface 0 (.int .i64 c) := rfl

theorem info43 : (Try.prog.info? 43).map (fun i => (i.zero, i.size, i.bytes)) = some (some (.agg #[(.string ⟨#[]⟩), (.int .i64 0), (.int .i64 0), (.int .i64 0), (.string ⟨#[]⟩)]), 5, 56) := by kernel_rfl
-- the values' own types
/-! #### struct type 25 -/
structure S25 where
  f0 : ByteArray
  f1 : Int
  f2 : Int
  f3 : (List ByteArray)
/-! #### struct type 43 -/
structure S43 where
  f0 : ByteArray
  f1 : Int
  f2 : Int
  f3 : Int
  f4 : ByteArray
def k43 : Kd S43 := Kd.iso (Kd.pair Kd.string (Kd.pair (Kd.int .i64) (Kd.pair (Kd.int .i64) (Kd.pair (Kd.int .i64) Kd.string)))) (fun x : S43 => (x.f0, x.f1, x.f2, x.f3, x.f4))
theorem k43_open {w : World} {x : S43} {cs : List Value} (h : k43.K w x cs) : cs = [.string x.f0, .int .i64 x.f1, .int .i64 x.f2, .int .i64 x.f3, .string x.f4] := by
  obtain ⟨_, _, rfl, rfl, ⟨_, _, rfl, rfl, ⟨_, _, rfl, rfl, ⟨_, _, rfl, rfl, rfl⟩⟩⟩⟩ := h
  exact rfl
theorem k43_mkM (w : World) (base : Nat) (ok : Nat → Prop) (x : S43)  : k43.M w base ok x [.string x.f0, .int .i64 x.f1, .int .i64 x.f2, .int .i64 x.f3, .string x.f4] := ⟨[.string x.f0], [.int .i64 x.f1, .int .i64 x.f2, .int .i64 x.f3, .string x.f4], rfl, rfl, ⟨[.int .i64 x.f1], [.int .i64 x.f2, .int .i64 x.f3, .string x.f4], rfl, rfl, ⟨[.int .i64 x.f2], [.int .i64 x.f3, .string x.f4], rfl, rfl, ⟨[.int .i64 x.f3], [.string x.f4], rfl, rfl, rfl⟩⟩⟩⟩
end Go.Proofs.Ythlajjcdmhgcmaa.PAw
