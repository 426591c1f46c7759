/- What the writer's calls leave as it was; what leaves the writer as it was: rows of strings and of whole numbers beside it. -/
import Derived.Test.YtepglkgpgoifkaaNameThy
import Derived.Test.YtepglkgpgoifkaaZeros
namespace Go.Proofs.Ytepglkgpgoifkaa.Wr
open Go.RowKit Go.PlainAid Go.Maps Go.Proofs.Ytepglkgpgoifkaa.Base Go.Proofs.Ytepglkgpgoifkaa.Oct Go.Proofs.Ytepglkgpgoifkaa.Nm Go.Proofs.YtepglkgpgoifkaaW.PrintWords
set_option linter.unusedVariables false
section
variable {base b' g gm size n : Nat} {v vs : Value} {xs : List Int} {ys : List Value} {m : ByteArray → Option Int} {w w' w1 : World} {e : TypeId}
theorem Wr.row_any (H : Wr base w g gm v xs m) (h : w.ownsRow b' e size vs n ys) : some gm ≠ vs.ownBlock := by
  intro q
  obtain ⟨cells, h⟩ := own_typed h gm q.symm
  obtain ⟨n, D, _, h', _⟩ := H.map
  obtain ⟨es, c, hb, _⟩ := h'
  rw [h] at hb
  cases hb
/-- A row beside the writer is what it was, behind a call on the writer. -/
theorem own_kp (H : Wr base w g gm v xs m) (h : w.ownsRow b' e size vs n ys) (he : e ≠ 5) (he2 : e ≠ 69) (K : Kp w w' g gm) : w'.ownsRow b' e size vs n ys := by
  have ng := own_ne h H.blk he2
  have nm := H.row_any h
  refine ⟨h.1, ?_⟩
  rcases h.2 with h2 | ⟨k, cap, cur, rfl, hg, hh, r⟩
  · exact .inl h2
  · refine .inr ⟨k, cap, cur, rfl, hg, ?_, r⟩
    rw [K.block k (blk_lt hh) (fun q => ng (by subst q; rfl)) (fun q => nm (by subst q; rfl)) (fun cs q => by rw [hh] at q; injection q with q; injection q with _ q; exact he q)]
    exact hh
/-- The writer is what it was, behind a write to a row beside it. -/
theorem Wr.beside (H : Wr base w g gm v xs m) (h : w.ownsRow b' e size vs n ys) (he : e ≠ 5) (he2 : e ≠ 69) (hg : w.grownBy w1 vs.ownBlock) : Wr base w1 g gm v xs m := by
  have ng := own_ne h H.blk he2
  have nm := H.row_any h
  obtain ⟨n, D, hn, hm, ht⟩ := H.map
  refine ⟨H.gb, H.mb, blk_grown H.blk hg ng, own_other H.own hg ?_, ⟨n, D, hn, hm.kept hg nm, ht⟩, H.len⟩
  rcases own_type_ne H.own h (Ne.symm he) with q | q
  · exact .inl q
  · exact .inr q
theorem Wr.alloc (H : Wr base w g gm v xs m) (o : Obj) : Wr base (w.alloc o) g gm v xs m := H.below ((Below.refl _ _).alloc (Nat.le_refl _) _)
end
section
variable {P : Program} {ops : Array Oper} {rest : List Oper} {o : Oper} {a : Act} {Q : Exit → Act → World → Prop}
/-- append(v, x) of one element, which lies in the variadic's own block: what has grown. -/
theorem app_one {W : World} (base : Nat) (hgd : o.guard = none) (s x : Operand) (t e : TypeId) (z : Value) (bytes : Nat)
    (ho : o.op = .call { callee := .builtin .append, args := #[s, x], argTypes := #[t, t] })
    (ht : P.underlying t = some (.slice e)) (hinfo : (P.info? e).map (fun i => (i.zero, i.size, i.bytes)) = some (some z, 1, bytes)) (hz : z.cells.size = 1)
    {v : Value} {n : Nat} {xs : List Value} (HO : W.ownsRow base e 1 v n xs) (u : Value) (hs : a.eval s = v) (hx : a.eval x = .slice (some ⟨W.heap.size, 0, none⟩) 1 1)
    (h1 : u.oneCell' = true) (hbase : base ≤ W.heap.size) (hn : n + 1 ≤ 140737488355328) (hl : (n + 1) * bytes ≤ 140737488355328)
    (h : ∀ v1 w1, w1.ownsRow base e 1 v1 (n + 1) (xs ++ [u]) → (W.alloc (.cells #[u] e)).grownBy w1 v.ownBlock → wpList P ops Q rest (a.put o.dst v1) w1) :
    wpList P ops Q (o :: rest) a (W.alloc (.cells #[u] e)) := by
  obtain ⟨i0, hi, hzz⟩ := Option.map_eq_some_iff.1 hinfo
  simp only [Prod.mk.injEq] at hzz
  obtain ⟨hz0, hz1, hz2⟩ := hzz
  refine wpList_append_own (W.alloc (.cells #[u] e)) hgd s x t ho base e i0 z 1 bytes ht hi hz0 hz1 hz2 hz (by decide) v n xs hs (HO.alloc _) ⟨W.heap.size, 0, none⟩ 1 1 [u] hx (by simp)
    (World.news_of_block (cs := #[u]) (t := e) (fr := (0, 0)) (heap_alloc_new W _)) (by simpa using h1) (by simp only [maxLen]; omega) hl (by simp; omega) ?_
  intro v1 w1 hown hg _
  exact h v1 w1 hown hg
end
theorem info_string : (Try.prog.info? 9).map (fun i => (i.zero, i.size, i.bytes)) = some (some (.string ⟨#[]⟩), 1, 16) := by kernel_rfl
abbrev strs (ss : List ByteArray) : List Value := ss.map Value.string
/-- An element of a row of strings of the call's own. -/
theorem strs_at {w : World} {base n : Nat} {v : Value} {ss : List ByteArray} (h : w.ownsRow base 9 1 v n (strs ss)) : ss.length = n ∧ ∃ A c, v = .slice A n c ∧ n ≤ c ∧ (n = 0 ∨ ∃ k, A = some ⟨k, 0, none⟩ ∧ ∀ j, j < n → w.cell? ⟨k, j, none⟩ = some (.string (ss.getD j ⟨#[]⟩))) := by
  have hl : ss.length = n := by have := h.1; simp [strs] at this; exact this
  refine ⟨hl, ?_⟩
  rcases h.2 with ⟨rfl, h0⟩ | ⟨k, cap, cur, rfl, hg, hh, hc⟩
  · exact ⟨none, 0, by simp_all, by omega, .inl (by omega)⟩
  · refine ⟨_, _, rfl, by obtain ⟨a, b, _⟩ := hc; omega, .inr ⟨k, rfl, fun j hj => ?_⟩⟩
    have := h.cells (g := k) rfl j (.string (ss.getD j ⟨#[]⟩)) (by simp [strs, List.getElem?_eq_getElem (show j < ss.length by omega), List.getD_eq_getElem?_getD])
    have e : ((⟨k, 0, none⟩ : Addr).add j) = ⟨k, j, none⟩ := by
      unfold Addr.add
      split
      · simp_all
      · simp
    rw [e] at this
    exact this
end Go.Proofs.Ytepglkgpgoifkaa.Wr
