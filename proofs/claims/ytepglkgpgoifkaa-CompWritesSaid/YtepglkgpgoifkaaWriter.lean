/- The writer of names that are compressed: what a writer holds; New, All and Raw. -/
import Derived.Test.YtepglkgpgoifkaaName
import Derived.Test.YtepglkgpgoifkaaWWords
import Derived.Maps.OwnSet
import Derived.WalkKit
namespace Go.Proofs.Ytepglkgpgoifkaa.Wr
open Go.RowKit Go.PlainAid Go.Maps Go.Proofs.Ytepglkgpgoifkaa.Base Go.Proofs.Ytepglkgpgoifkaa.Oct Go.Proofs.YtepglkgpgoifkaaW.PrintWords
set_option linter.unusedVariables false

theorem keyed : Keyed Try.prog 9 := string_keyed Try.underlying9
theorem zero_int (w : World) : (zeroValue 3).run Try.prog w = .ok (.int .i64 0) w := by kernel_rfl
theorem info_byte : (Try.prog.info? 5).map (fun i => (i.zero, i.size, i.bytes)) = some (some (.int .u8 0), 1, 1) := by kernel_rfl
abbrev lit (s : ByteArray) : Lit := .string s.data.toList
theorem key_of (s : ByteArray) (h : s.size ≤ 140737488351232) : keyOf Try.prog 9 (.string s) = some (lit s) := by
  have : s.data.toList.length ≤ maxLen := by simp only [maxLen]; have : s.data.toList.length = s.size := by simp
                                             omega
  simp [keyOf, mapKey, Try.underlying9]
  first | omega | (simp only [maxLen] at *; omega) | simpa using this
/-- The map says just what m says, of strings of any use. -/
structure Tells (D : DataW Unit) (m : ByteArray → Option Int) : Prop where
  isMap : IsMap D
  has : ∀ s, Maps.has D (lit s) = (m s).isSome
  at_ : ∀ s, D.atKey (lit s) (.lit (.int .i64 0)) = .lit (.int .i64 ((m s).getD 0))
theorem lit_inj {a b : ByteArray} (h : lit a = lit b) : a = b := by
  have h1 : a.data.toList = b.data.toList := Lit.string.inj h
  have h2 : a.data = b.data := by simpa using h1
  cases a; cases b; simp_all
theorem Tells.put {D : DataW Unit} {m : ByteArray → Option Int} (h : Tells D m) (x : ByteArray) (a : Int) : Tells (D.put (lit x) (.lit (.int .i64 a))) (fun y => if y = x then some a else m y) where
  isMap := h.isMap.put _ _
  has y := by
    by_cases e : y = x
    · subst e; rw [if_pos rfl, has_put_same h.isMap (show WideAt.IsKeyLit (lit y) from trivial)]; rfl
    · rw [if_neg e, has_put_other (fun e2 => e (lit_inj e2)), h.has]
  at_ y := by
    by_cases e : y = x
    · subst e; rw [if_pos rfl, atKey_put_same h.isMap (show WideAt.IsKeyLit (lit y) from trivial)]; rfl
    · rw [if_neg e, atKey_put_other (fun e2 => e (lit_inj e2)), h.at_]
/-- What a writer holds: its bytes, and where rests of names lie. -/
structure Wr (base : Nat) (w : World) (g gm : Nat) (v : Value) (xs : List Int) (m : ByteArray → Option Int) : Prop where
  gb : base ≤ g
  mb : base ≤ gm
  blk : w.heap[g]? = some (.cells #[v, .map (some gm)] 69 (0, 0))
  own : w.ownsRow base 5 1 v xs.length (nums .u8 xs)
  map : ∃ n D, n ≤ 256 * xs.length ∧ w.ownsMap Try.prog 9 (plainElem Try.prog 3) gm n D ∧ Tells D m
  len : xs.length ≤ 4096
abbrev ptr (g : Nat) : Value := .pointer (some ⟨g, 0, none⟩)
/-- What a call on the writer leaves as it was: all blocks but the writer's own and rows of bytes. -/
structure Kp (w w' : World) (g gm : Nat) : Prop where
  size : w.heap.size ≤ w'.heap.size
  block : ∀ k, k < w.heap.size → k ≠ g → k ≠ gm → (∀ cs, w.heap[k]? ≠ some (.cells cs 5 (0, 0))) → w'.heap[k]? = w.heap[k]?
theorem Kp.refl (w : World) (g gm : Nat) : Kp w w g gm := ⟨Nat.le_refl _, fun _ _ _ _ _ => rfl⟩
theorem Kp.trans {w w1 w2 : World} {g gm : Nat} (h : Kp w w1 g gm) (k : Kp w1 w2 g gm) : Kp w w2 g gm :=
  ⟨Nat.le_trans h.size k.size, fun i hi a b c => by
    have e := h.block i hi a b c
    exact (k.block i (Nat.lt_of_lt_of_le hi h.size) a b (fun cs => by rw [e]; exact c cs)).trans e⟩

theorem newc (w : World) : Calls Try.prog 12 #[] w fun e w' => ∃ g gm, e = .returned (ptr g) ∧ Below w.heap.size w w' ∧ Wr w.heap.size w' g gm (.slice none 0 0) [] (fun _ => none) := by
  have hmm := @run_makeMap Try.prog
  go_enter Try.func12, Try.ntmps12
  go_wp2
  go_ret
  refine ⟨_, w.heap.size, rfl, ((Below.refl _ _).alloc (Nat.le_refl _) _).alloc (by simp) _, ⟨?_, Nat.le_refl _, by simpa using blk_new (w.alloc (.map #[] 0)) _, own_nil _ _ _ _, ⟨0, .map [], by simp, (World.ownsMap_made w _ _ _).alloc _, ⟨?_, fun s => ?_, fun s => ?_⟩⟩, by simp⟩⟩
  all_goals first | (simp; done) | rfl | trivial | (simp [IsMap]; done) | exact ⟨_, rfl⟩ | skip

theorem allc {base g gm : Nat} {v : Value} {xs : List Int} {m : ByteArray → Option Int} {w : World} (H : Wr base w g gm v xs m) :
    Calls Try.prog 18 #[ptr g] w fun e w' => e = .returned (.string (strOfNums xs)) ∧ w' = w := by
  have c0 : w.cell? ⟨g, 0, none⟩ = some v := (blk_cell H.blk 0).trans rfl
  have hc := own_string Try.underlying42 Try.underlying5 Try.underlying9 H.own
  go_enter Try.func18, Try.ntmps18
  go_wp2
  go_ret
  exact ⟨rfl, rfl⟩

section
variable {P : Program} {ops : Array Oper} {rest : List Oper} {o : Oper} {a : Act} {Q : Exit → Act → World → Prop}
theorem app_str {W : World} (base : Nat) (hgd : o.guard = none) (s x : Operand) (t u e : TypeId)
    (ho : o.op = .call { callee := .builtin .append, args := #[s, x], argTypes := #[t, u] })
    (ht : P.underlying t = some (.slice e)) (hu : P.underlying u = some .string) (hinfo : (P.info? e).map (fun i => (i.zero, i.size, i.bytes)) = some (some (.int .u8 0), 1, 1))
    (v : Value) (xs : List Int) (y : ByteArray) (hs : a.eval s = v) (hx : a.eval x = .string y)
    (HO : W.ownsRow base e 1 v xs.length (nums .u8 xs)) (hbase : base ≤ W.heap.size) (hl : xs.length + y.size ≤ 140737488355328)
    (h : ∀ v1 w1, w1.ownsRow base e 1 v1 (xs ++ bytesOf y).length (nums .u8 (xs ++ bytesOf y)) → W.grownBy w1 v.ownBlock → wpList P ops Q rest (a.put o.dst v1) w1) :
    wpList P ops Q (o :: rest) a W := by
  obtain ⟨i0, hi, hzz⟩ := Option.map_eq_some_iff.1 hinfo
  simp only [Prod.mk.injEq] at hzz
  obtain ⟨hz0, hz1, hz2⟩ := hzz
  refine Lib.wpList_append_own_string W hgd s x t u ho base e i0 ht hu hi hz0 hz1 hz2 v xs.length (nums .u8 xs) hs HO y hx (by simp only [maxLen]; omega) hl hbase ?_
  intro v1 w1 hown hg _
  have hl2 : (xs ++ bytesOf y).length = xs.length + y.size := by rw [List.length_append, bytesOf_length]
  have hc : nums .u8 (xs ++ bytesOf y) = nums .u8 xs ++ Lib.strCells y := by
    rw [nums_append]
    congr 1
    simp [nums, bytesOf, Lib.strCells]
  exact h v1 w1 (by rw [hl2, hc]; exact hown) hg
end

section
variable {base g gm : Nat} {v : Value} {xs : List Int} {m : ByteArray → Option Int} {w : World}
theorem Wr.base_le (H : Wr base w g gm v xs m) : base ≤ w.heap.size := Nat.le_trans H.gb (Nat.le_of_lt (blk_lt H.blk))
theorem Wr.ne (H : Wr base w g gm v xs m) : gm ≠ g := by
  obtain ⟨n, D, _, h, _⟩ := H.map
  obtain ⟨es, c, hb, _⟩ := h
  rintro rfl
  rw [H.blk] at hb
  cases hb
theorem Wr.row_g (H : Wr base w g gm v xs m) : some g ≠ v.ownBlock := own_ne H.own H.blk (by decide)
theorem Wr.row_m (H : Wr base w g gm v xs m) : some gm ≠ v.ownBlock := by
  intro e
  obtain ⟨cells, h⟩ := own_typed H.own gm e.symm
  obtain ⟨n, D, _, h', _⟩ := H.map
  obtain ⟨es, c, hb, _⟩ := h'
  rw [h] at hb
  cases hb
theorem Wr.stored2 (H : Wr base w g gm v xs m) {wr w1 : World} {v1 : Value} {ys : List Int} {n' : Nat} {D' : DataW Unit} {m' : ByteArray → Option Int} (hgr : w.grownBy wr (some gm)) (hm : wr.ownsMap Try.prog 9 (plainElem Try.prog 3) gm n' D') (ht : Tells D' m')
    (hg1 : wr.grownBy w1 v.ownBlock) (ho1 : w1.ownsRow base 5 1 v1 ys.length (nums .u8 ys)) (hl : ys.length ≤ 4096) (hn : n' ≤ 256 * ys.length) :
    Wr base (w1.setCell ⟨g, 0, none⟩ v1) g gm v1 ys m' ∧ Below base w (w1.setCell ⟨g, 0, none⟩ v1) ∧ Kp w (w1.setCell ⟨g, 0, none⟩ v1) g gm := by
  have b0 := blk_grown H.blk hgr (by simpa using H.ne.symm)
  have b1 := blk_grown b0 hg1 H.row_g
  refine ⟨⟨H.gb, H.mb, blk_put b1 0 v1 rfl, own_setCell ho1 (own_ne ho1 b1 (by decide)) _, ⟨n', D', hn, (hm.kept hg1 H.row_m).setCell H.ne _, ht⟩, hl⟩, (((Below.refl base w).grown hgr H.base_le (fun k e => by have := H.mb; injection e with e; omega)).grown hg1 (Nat.le_trans H.base_le hgr.size) (own_base H.own)).setCell H.gb _, ⟨by have := hg1.size; have := hgr.size; simp [World.setCell]; omega, fun k hk h1 h2 h3 => ?_⟩⟩
  refine (Below.heap_setCell w1 _ _ k h1).trans ((hg1.block k (Nat.lt_of_lt_of_le hk hgr.size) ?_).trans (hgr.block k hk (by simpa using h2)))
  intro e
  obtain ⟨cells, h⟩ := own_typed H.own k e.symm
  exact h3 cells h
theorem Wr.stored (H : Wr base w g gm v xs m) {w1 : World} {v1 : Value} {ys : List Int} (hg1 : w.grownBy w1 v.ownBlock) (ho1 : w1.ownsRow base 5 1 v1 ys.length (nums .u8 ys)) (hl : ys.length ≤ 4096) (hle : xs.length ≤ ys.length) :
    Wr base (w1.setCell ⟨g, 0, none⟩ v1) g gm v1 ys m ∧ Below base w (w1.setCell ⟨g, 0, none⟩ v1) ∧ Kp w (w1.setCell ⟨g, 0, none⟩ v1) g gm := by
  obtain ⟨n, D, hn, hm, ht⟩ := H.map
  exact H.stored2 (World.grownBy.refl _ _) hm ht hg1 ho1 hl (by omega)
theorem rawLong (H : Wr base w g gm v xs m) (s : ByteArray) (hs : s.size ≤ 140737488351232) (hl : 4096 < xs.length + s.size) :
    Calls Try.prog 13 #[ptr g, .string s] w fun e w' => e = .returned (.int .i64 501) ∧ w' = w := by
  have c0 : w.cell? ⟨g, 0, none⟩ = some v := (blk_cell H.blk 0).trans rfl
  have hx := H.len
  obtain ⟨A, c, rfl⟩ := own_slice H.own
  have q : decide (4096 - (xs.length : Int) < (s.size : Int)) = true := by simp; omega
  go_enter Try.func13, Try.ntmps13
  go_wp2
  go_ret
  exact ⟨rfl, rfl⟩
theorem rawOk (H : Wr base w g gm v xs m) (s : ByteArray) (hs : s.size ≤ 140737488351232) (hl : xs.length + s.size ≤ 4096) :
    Calls Try.prog 13 #[ptr g, .string s] w fun e w' => e = .returned (.int .i64 0) ∧ ∃ v', Wr base w' g gm v' (xs ++ bytesOf s) m ∧ Below base w w' ∧ Kp w w' g gm := by
  have c0 : w.cell? ⟨g, 0, none⟩ = some v := (blk_cell H.blk 0).trans rfl
  have f0 := blk_frozen H.blk 0
  have hx := H.len
  have hb := H.base_le
  have ho := H.own
  have hrg := H.row_g
  obtain ⟨A, c, rfl⟩ := own_slice H.own
  have q : decide (4096 - (xs.length : Int) < (s.size : Int)) = false := by simp; omega
  go_enter Try.func13, Try.ntmps13
  go_wp2_with (at_builtin; refine app_str base rfl (.tmp 22) (.tmp 23) 42 9 5 rfl Try.underlying42 Try.underlying9 info_byte _ xs s rfl rfl ho hb (by omega) ?_; intro v1 w1 ho1 hg1; have c1 := hg1.cell c0 hrg; have f1 : w1.frozen? ⟨g, 0, none⟩ = false := (World.frozen?_of_block (hg1.block g (blk_lt H.blk) hrg)).trans f0; rw [List.length_append] at ho1; obtain ⟨A1, cc1, rfl⟩ := own_slice ho1)
  go_ret
  exact ⟨rfl, _, H.stored hg1 (by rw [List.length_append]; exact ho1) (by simp [bytesOf_length]; omega) (by simp)⟩
end
end Go.Proofs.Ytepglkgpgoifkaa.Wr
