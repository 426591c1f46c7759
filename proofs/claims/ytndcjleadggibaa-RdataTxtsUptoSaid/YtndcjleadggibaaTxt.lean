/- The contract of rdata.Txt: what the call answers, for any row of strings. -/
import Derived.Test.YtndcjleadggibaaSoaRefGet
import Derived.Lib.AppendStr
namespace Go.Proofs.Ytndcjleadggibaa.Rd
open Go.RowKit Go.PlainAid Go.Proofs.Ytndcjleadggibaa.Base Go.Proofs.Ytndcjleadggibaa.Oct Go.Proofs.Ytndcjleadggibaa.Sl Go.Proofs.Ytndcjleadggibaa.Nm Go.Lib
set_option linter.unusedVariables false

/-- A row of strings, read. -/
def Reads (w : World) (b off : Nat) (ps : List ByteArray) : Prop := ∀ k (h : k < ps.length), w.cell? ⟨b, off + k, none⟩ = some (.string ps[k])
theorem Reads.below {w w1 : World} {b off : Nat} {ps : List ByteArray} (h : Reads w b off ps) (hb : Below w.heap.size w w1) : Reads w1 b off ps := fun k hk => bcell hb (h k hk)
/-- The texts' bytes. -/
def numsOf (s : ByteArray) : List Int := s.data.toList.map fun b => (b.toNat : Int)
def outN (ps : List ByteArray) : List Int := ps.flatMap fun p => (p.size : Int) :: numsOf p
def okT (ps : List ByteArray) : Bool := ps.all fun p => decide (p.size ≤ 255)
def txB (ps : List ByteArray) : Bool := okT ps && (decide (0 < ps.length) && decide ((outN ps).length ≤ 65535))
def txS (ps : List ByteArray) : ByteArray := if txB ps then strOfNums (outN ps) else emp
def txE (ps : List ByteArray) : Int := if txB ps then 0 else 400
def u8cells (l : List Int) : List Value := l.map (Value.int .u8)
theorem info_u8 : (Try.prog.info? 5).map (fun i => (i.zero, i.size, i.bytes)) = some (some (.int .u8 0), 1, 1) := by kernel_rfl
theorem strCells_nums (s : ByteArray) : strCells s = u8cells (numsOf s) := by simp [strCells, u8cells, numsOf]
theorem numsOf_length (s : ByteArray) : (numsOf s).length = s.size := by simp [numsOf]
structure TR (ps : List ByteArray) (w : World) (i : Nat) (v : Value) (wr : World) : Prop where
  own : wr.ownsRow w.heap.size 5 1 v (outN (ps.take i)).length (u8cells (outN (ps.take i)))
  bel : Below w.heap.size w wr
  ok : okT (ps.take i) = true
theorem outN_next (ps : List ByteArray) (i : Nat) (h : i < ps.length) : outN (ps.take (i + 1)) = outN (ps.take i) ++ (ps[i].size : Int) :: numsOf ps[i] := by
  unfold outN
  rw [List.take_succ_eq_append_getElem h, List.flatMap_append, List.flatMap_cons, List.flatMap_nil, List.append_nil]
theorem okT_next (ps : List ByteArray) (i : Nat) (h : i < ps.length) (hk : okT (ps.take i) = true) (hs : ps[i].size ≤ 255) : okT (ps.take (i + 1)) = true := by
  rw [List.take_succ_eq_append_getElem h]
  simp only [okT, List.all_append, List.all_cons, List.all_nil] at hk ⊢
  rw [hk]; simp; exact hs
theorem okT_bad (ps : List ByteArray) (i : Nat) (h : i < ps.length) (hs : 255 < ps[i].size) : okT ps = false := by
  unfold okT
  rw [List.all_eq_false]
  exact ⟨ps[i], List.getElem_mem h, by simp; omega⟩
theorem outN_le (ps : List ByteArray) (i : Nat) : (outN (ps.take i)).length ≤ (outN ps).length := by
  have : outN ps = outN (ps.take i) ++ outN (ps.drop i) := by unfold outN; rw [← List.flatMap_append, List.take_append_drop]
  rw [this]; simp
theorem TR.next {ps : List ByteArray} {w w1 : World} {i : Nat} {v1 : Value} (h : i < ps.length) (hs : ps[i].size ≤ 255) (hk : okT (ps.take i) = true)
    (ho : w1.ownsRow w.heap.size 5 1 v1 ((outN (ps.take i)).length + 1 + ps[i].size) (u8cells (outN (ps.take i)) ++ .int .u8 (ps[i].size : Int) :: strCells ps[i])) (hb : Below w.heap.size w w1) : TR ps w (i + 1) v1 w1 where
  own := by
    rw [outN_next ps i h]
    have e1 : u8cells (outN (ps.take i)) ++ .int .u8 (ps[i].size : Int) :: strCells ps[i] = u8cells (outN (ps.take i) ++ (ps[i].size : Int) :: numsOf ps[i]) := by
      rw [strCells_nums]; simp [u8cells]
    rw [← e1]
    have e2 : (outN (ps.take i) ++ (ps[i].size : Int) :: numsOf ps[i]).length = (outN (ps.take i)).length + 1 + ps[i].size := by
      rw [List.length_append, List.length_cons, numsOf_length]; omega
    rw [e2]; exact ho
  bel := hb
  ok := okT_next ps i h hk hs
section
variable {P : Program} {ops : Array Oper} {rest : List Oper} {o : Oper} {a : Act} {Q : Exit → Act → World → Prop}
/-- append(v, s...), s a string. -/
theorem append_str {w0 W : World} (base : Nat) (hgd : o.guard = none) (sl x : Operand) (t u e : TypeId)
    (ho : o.op = .call { callee := .builtin .append, args := #[sl, x], argTypes := #[t, u] })
    (ht : P.underlying t = some (.slice e)) (hu : P.underlying u = some .string) (hinfo : (P.info? e).map (fun i => (i.zero, i.size, i.bytes)) = some (some (.int .u8 0), 1, 1))
    {v : Value} {n : Nat} {xs : List Value} (HO : W.ownsRow base e 1 v n xs) (hs : a.eval sl = v) (s : ByteArray) (hx : a.eval x = .string s)
    (HB : Below base w0 W) (hbase : base ≤ W.heap.size) (hn : n + s.size ≤ 140737488355328)
    (h : ∀ v1 w1, w1.ownsRow base e 1 v1 (n + s.size) (xs ++ strCells s) → Below base w0 w1 → wpList P ops Q rest (a.put o.dst v1) w1) :
    wpList P ops Q (o :: rest) a W := by
  obtain ⟨i0, hi, hz0, hz1, hz2⟩ := info_parts hinfo
  refine wpList_append_own_string W hgd sl x t u ho base e i0 ht hu hi hz0 hz1 hz2 v n xs hs HO s hx (by simp only [maxLen]; omega) hn hbase ?_
  intro v1 w1 hown hg _
  exact h v1 w1 hown (HB.grown hg hbase (own_base HO))
end

theorem u8cells_get (xs : List Int) (i : Nat) (h : i < xs.length) : (u8cells xs)[i]? = some (.int .u8 (xs.getD i 0)) := by
  unfold u8cells
  rw [List.getElem?_map, List.getElem?_eq_getElem h, List.getD_eq_getElem?_getD, List.getElem?_eq_getElem h]
  rfl
/-- string(v), v the call's own. -/
theorem conv_own {wr : World} {base c : Nat} {A : Option Addr} {xs : List Int} (h : wr.ownsRow base 5 1 (.slice A xs.length c) xs.length (u8cells xs)) :
    (convert 54 9 (.slice A xs.length c)).run Try.prog wr = .ok (.string (strOfNums xs)) wr := by
  have h2 := h
  rcases h2.2 with ⟨e, e0⟩ | ⟨g, cap, cur, e, _⟩
  · have hA : A = none := by simpa using (Value.slice.inj e).1
    have hx : xs = [] := by simpa [u8cells] using e0
    subst hA hx
    rw [run_convert_bytes_nil wr 54 5 Try.underlying54 Try.underlying5 _ _ _ Try.underlying9]
    rfl
  · obtain ⟨hA, _, hc⟩ := Value.slice.inj e
    subst hA hc
    refine run_convert_bytes_arg wr 54 5 Try.underlying54 Try.underlying5 g 0 xs.length _ xs rfl (fun i hi => ?_) _ Try.underlying9
    rw [Nat.zero_add, h.cellAt i (by omega), u8cells_get xs i hi]

set_option maxRecDepth 100000 in
set_option maxHeartbeats 2000000 in
theorem txtWalk (ps : List ByteArray) (b off c : Nat) (w : World) (hR : Reads w b off ps) (hn : ps.length ≤ 140737488355328) (hT : (outN ps).length ≤ 140737488000000) :
    Calls Try.prog 40 #[.slice (some ⟨b, off, none⟩) ps.length c] w fun e w' => e = ans (txS ps) (txE ps) ∧ Below w.heap.size w w' := by
  go_enter Try.func40, Try.ntmps40
  go_wp2
  go_loopg [4, 6, 9] (ps.length + 1) (fun k v4 v6 v9 wr => ∃ i : Nat, v9 = .int .i64 i ∧ i + k = ps.length + 1 ∧ i ≤ ps.length ∧ TR ps w i v4 wr)
  case atStart => exact ⟨0, rfl, by omega, by omega, ⟨World.ownsRow_nil _ _ _ _, Below.refl _ _, rfl⟩⟩
  case round =>
    obtain ⟨i, rfl, hk1, hk2, hTR⟩ := hrel
    have hbel := hTR.bel
    have hown := hTR.own
    have hsz := hbel.size
    have HK := Lib.hid hTR.ok
    have hle := outN_le ps i
    by_cases hlt : i < ps.length
    · have q0 : decide ((i : Int) < ps.length) = true := by simp; omega
      have hc := (hR.below hTR.bel) i hlt
      clear hTR
      by_cases h255 : 255 < ps[i].size
      · have q1 : decide ((255 : Int) < ps[i].size) = true := by simp; omega
        have e1 : txB ps = false := by unfold txB; rw [okT_bad ps i hlt h255]; rfl
        have e2 : ans (txS ps) (txE ps) = ans emp 400 := by unfold txS txE; rw [e1]; rfl
        go_wp2
        go_ret2
        exact ⟨by rw [e2]; rfl, hbel⟩
      · have q1 : decide ((255 : Int) < ps[i].size) = false := by simp; omega
        have hle1 := outN_le ps (i + 1)
        rw [outN_next ps i hlt, List.length_append, List.length_cons, numsOf_length] at hle1
        go_wp2_with (at_builtin; refine append_row (w0 := w) w.heap.size rfl _ _ 54 5 (.int .u8 0) 1 1 rfl Try.underlying54 info_u8 rfl (by decide) hown #[.int .u8 (ps[i].size : Int)] rfl rfl rfl ?h1 hbel hsz ?hn ?hl ?_)
        case h1 => rfl
        case hn => omega
        case hl => omega
        intro v1 w1 hown1 hbel1
        have hsz1 := hbel1.size
        go_wp2_with (at_builtin; refine append_str (w0 := w) w.heap.size rfl _ _ 54 9 5 rfl Try.underlying54 Try.underlying9 info_u8 hown1 rfl _ rfl hbel1 hsz1 ?hn ?_)
        case hn => omega
        intro v2 w2 hown2 hbel2
        go_wp2
        go_roundg (gk - 1)
        case measure => omega
        case rel => exact ⟨i + 1, by simp, by omega, by omega, TR.next hlt (by omega) HK.out hown2 hbel2⟩
    · have q0 : decide ((i : Int) < ps.length) = false := by simp; omega
      have q00 : decide (i < ps.length) = false := decide_eq_false hlt
      have hi : i = ps.length := by omega
      have ht : ps.take i = ps := by rw [hi, List.take_length]
      rw [ht] at hown
      have hok : okT ps = true := by have := HK.out; rwa [ht] at this
      obtain ⟨A, c4, rfl⟩ := own_slice hown
      have hcv := conv_own hown
      clear hTR hle ht hi hlt hk1 hk2
      by_cases h0 : ps.length = 0
      · have q1 : ((ps.length : Int) == 0) = true := beq_iff_eq.2 (by omega)
        have e1 : txB ps = false := by unfold txB; rw [decide_eq_false (show ¬ 0 < ps.length by omega)]; simp
        have e2 : ans (txS ps) (txE ps) = ans emp 400 := by unfold txS txE; rw [e1]; rfl
        clear h0
        go_wp2
        go_ret2
        exact ⟨by rw [e2]; rfl, hbel⟩
      · have q1 : ((ps.length : Int) == 0) = false := beq_eq_false_iff_ne.2 (by omega)
        by_cases h6 : 65535 < (outN ps).length
        · have q2 : decide ((65535 : Int) < (outN ps).length) = true := by simp; omega
          have e1 : txB ps = false := by unfold txB; rw [decide_eq_false (show ¬ (outN ps).length ≤ 65535 by omega)]; simp
          have e2 : ans (txS ps) (txE ps) = ans emp 400 := by unfold txS txE; rw [e1]; rfl
          clear h0 h6
          go_wp2
          go_ret2
          exact ⟨by rw [e2]; rfl, hbel⟩
        · have q2 : decide ((65535 : Int) < (outN ps).length) = false := by simp; omega
          have e1 : txB ps = true := by unfold txB; rw [hok, decide_eq_true (show (outN ps).length ≤ 65535 by omega), decide_eq_true (show 0 < ps.length by omega)]; rfl
          have e2 : ans (txS ps) (txE ps) = ans (strOfNums (outN ps)) 0 := by unfold txS txE; rw [e1]; rfl
          clear h0 h6
          go_wp2
          go_ret2
          exact ⟨by rw [e2]; rfl, hbel⟩
end Go.Proofs.Ytndcjleadggibaa.Rd
