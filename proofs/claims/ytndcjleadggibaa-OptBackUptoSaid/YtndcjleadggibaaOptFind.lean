/- What opt.Find answers; that an OPT is the same as itself. -/
import Derived.Test.YtndcjleadggibaaOptBackS
import Derived.Test.YtndcjleadggibaaPOptx5
import Derived.Test.YtndcjleadggibaaPOptx6
namespace Go.Proofs.Ytndcjleadggibaa.OptS
open Go.RowKit Go.Proofs.Ytndcjleadggibaa.POpt Go.Proofs.YtndcjleadggibaaW.PrintWords Go.Proofs.Ytndcjleadggibaa.Pu Go.Proofs.Ytndcjleadggibaa.OctS
set_option linter.unusedVariables false
abbrev Q := S26
theorem same_l0 (l : List O) (hl : l.length ≤ 4611686018427387904) : ∀ (m i : Nat), i + m = l.length → Ev (fun k => wimplelaw0_SameOptions.l0 k l l (i : Int)) true
  | 0, i, h => Ev.step (fun k => by rw [wimplelaw0_SameOptions.l0]) (Ev.neg (by omega) (Ev.some _ fun _ => rfl))
  | m + 1, i, h => by
    refine Ev.step (fun k => by rw [wimplelaw0_SameOptions.l0]) (Ev.pos (by omega) (Ev.pos (by omega) (Ev.pos (by omega) (Ev.neg (by simp) ?_))))
    rw [w64 (by omega) (by omega)]
    exact same_l0 l hl m (i + 1) (by omega)
theorem same_refl (a b c : Int) (d : Bool) (e : Int) (l : List O) (hl : l.length ≤ 4611686018427387904) : Ev (fun k => wimplelaw0_SameOpt.f k a b c d e l a b c d e l) true := by
  unfold wimplelaw0_SameOpt.f wimplelaw0_SameOptions.f
  refine Ev.pos rfl (Ev.pos rfl (Ev.pos rfl (Ev.pos (by simp) (Ev.pos rfl (Ev.bind (Ev.pos rfl (same_l0 l hl l.length 0 (by omega))) (Ev.some _ fun _ => rfl))))))
abbrev G6 := Int × Int × Int × Bool × Int × List O
def six (g : G) : G6 := (g.1, g.2.1, g.2.2.1, g.2.2.2.1, g.2.2.2.2.1, g.2.2.2.2.2.1)
def seven (o : G6) (m : Int) : G := (o.1, o.2.1, o.2.2.1, o.2.2.2.1, o.2.2.2.2.1, o.2.2.2.2.2, m)
def getQ (r : Q) : G := getR r.f0 r.f1 r.f2 r.f3 r.f4
def findR : List Q → Int → G6 → G
  | [], m, o => seven o m
  | r :: rs, m, o => if r.f1 = 41 then (if m = 0 then findR rs (m + 1) (six (getQ r)) else findR rs (m + 1) o) else findR rs m o
theorem find_l0 (l : List Q) (hl : l.length ≤ 4611686018427387904) (hs : ∀ r ∈ l, r.f4.size ≤ 4000000000000) : ∀ (n i : Nat), i + n = l.length → ∀ (m : Int) (o : G6), 0 ≤ m → m ≤ i →
    Ev (fun k => opt_Find.l0 k m l (l.length : Int) (i : Int) o.1 o.2.1 o.2.2.1 o.2.2.2.1 o.2.2.2.2.1 o.2.2.2.2.2) (findR (l.drop i) m o)
  | 0, i, h, m, o, h0, h1 => by
    rw [List.drop_eq_nil_of_le (by omega), show findR [] m o = seven o m from rfl]
    unfold seven
    refine Ev.step (fun k => by rw [opt_Find.l0]) (Ev.neg (by omega) (Ev.some _ fun _ => rfl))
  | n + 1, i, h, m, o, h0, h1 => by
    rw [drop_cons l z26 i (by omega)]
    have hm : (l.getD i z26) ∈ l := by rw [getD_lt (by omega)]; exact List.getElem_mem _
    refine Ev.step (fun k => by rw [opt_Find.l0]) (Ev.pos (by omega) (Ev.pos (by omega) (Ev.pos (by omega) ?_)))
    rw [w64 (x := m + 1) (by omega) (by omega), w64 (x := (i : Int) + 1) (by omega) (by omega)]
    show Ev _ (findR (rd_T26 l (i : Int) :: l.drop (i + 1)) m o)
    have hq : (rd_T26 l (i : Int)) ∈ l := hm
    generalize rd_T26 l (i : Int) = q at *
    unfold findR
    by_cases c1 : q.f1 = 41
    · rw [if_pos c1]
      refine Ev.pos c1 ?_
      by_cases c2 : m = 0
      · rw [if_pos c2]
        exact Ev.pos c2 (Ev.bind (get_ev q.f0 q.f1 q.f2 q.f3 q.f4 (hs q hq)) (find_l0 l hl hs n (i + 1) (by omega) (m + 1) (six (getQ q)) (by omega) (by omega)))
      · rw [if_neg c2]
        exact Ev.neg c2 (find_l0 l hl hs n (i + 1) (by omega) (m + 1) o (by omega) (by omega))
    · rw [if_neg c1]
      exact Ev.neg c1 (find_l0 l hl hs n (i + 1) (by omega) m o h0 (by omega))
def out0 : G6 := (0, 0, 0, false, 0, [])
theorem find_ev (a0 : Int) (a1 : Bool) (a2 : Int) (a3 a4 a5 a6 : Bool) (a7 a8 : Int) (qs : List S124) (an ns l : List Q) (hl : l.length ≤ 4611686018427387904) (hs : ∀ r ∈ l, r.f4.size ≤ 4000000000000) : Ev (fun k => opt_Find.f k a0 a1 a2 a3 a4 a5 a6 a7 a8 qs an ns l) (findR l 0 out0) := by
  have := find_l0 l hl hs l.length 0 (by omega) 0 out0 (by omega) (by omega)
  rw [List.drop_zero] at this
  exact this
end Go.Proofs.Ytndcjleadggibaa.OptS
