/- Of each kind of record: what is known of one that came in, how much it is; its data open as the print's values. -/
import Derived.Test.YtndcjleadggibaaOpenKd
import Derived.Test.YtndcjleadggibaaPRdTx0
namespace Go.Proofs.Ytndcjleadggibaa.OkRdT
open Go.ChangeShapes Go.WideShapes Go.ChangeAt Go.RowKit Go.Proofs.YtndcjleadggibaaW.PrintWords Go.Proofs.Ytndcjleadggibaa.PRdT Go.Proofs.Ytndcjleadggibaa.OpenKd
set_option linter.unusedVariables false
structure S59 where
  f0 : ByteArray
  f1 : ByteArray
  f2 : Int
  f3 : Int
  f4 : Int
  f5 : Int
  f6 : Int
def k59 : Kd S59 := Kd.iso (Kd.pair Kd.string (Kd.pair Kd.string (Kd.pair (Kd.int .i64) (Kd.pair (Kd.int .i64) (Kd.pair (Kd.int .i64) (Kd.pair (Kd.int .i64) (Kd.int .i64))))))) (fun x : S59 => (x.f0, x.f1, x.f2, x.f3, x.f4, x.f5, x.f6))
def ok59 (x : S59) : Prop := ((fun s => s.size ≤ maxLen) x.f0) ∧ ((fun s => s.size ≤ maxLen) x.f1) ∧ ((fun x => (Lit.int .i64 x).wf = true) x.f2) ∧ ((fun x => (Lit.int .i64 x).wf = true) x.f3) ∧ ((fun x => (Lit.int .i64 x).wf = true) x.f4) ∧ ((fun x => (Lit.int .i64 x).wf = true) x.f5) ∧ ((fun x => (Lit.int .i64 x).wf = true) x.f6)
def bk59 (x : S59) : Nat := (x.f0.size + 1) + (x.f1.size + 1) + 1 + 1 + 1 + 1 + 1 + 1
theorem cells59 : ∀ {l : List Value}, l.length = 7 → ∃ c0 c1 c2 c3 c4 c5 c6, l = [c0, c1, c2, c3, c4, c5, c6]
  | [c0, c1, c2, c3, c4, c5, c6], _ => ⟨c0, c1, c2, c3, c4, c5, c6, rfl⟩
theorem opens59 {H : Type} (enc : TypeId × Value → H) (W : World) (base : Nat) (spare : Nat → Bool) (held : Bool) : Opens enc Try.prog W base spare held 59 k59 ok59 bk59 := by
  intro fuel cs y h
  obtain ⟨xs, n, rfl, rfl, hl, hx, hf⟩ := DataW.trod_struct Try.underlying59 h
  obtain ⟨c0, c1, c2, c3, c4, c5, c6, rfl⟩ := cells59 (hl.trans (by kernel_rfl))
  obtain ⟨y0, e0⟩ : ∃ y, xs[0]? = some y := ⟨_, List.getElem?_eq_getElem (by rw [hx]; decide)⟩
  have g0 : DataW.trod enc Try.prog W base spare held n 9 (([c0, c1, c2, c3, c4, c5, c6].drop 0).take (Try.prog.cellsOf 9)) = xs[0]? := hf 0 _ rfl
  rw [e0, show Try.prog.cellsOf 9 = 1 by kernel_rfl] at g0
  obtain ⟨x0, k0', o0, b0⟩ := (opens_string enc Try.prog W base spare held Try.underlying9) _ [c0] y0 g0
  obtain ⟨y1, e1⟩ : ∃ y, xs[1]? = some y := ⟨_, List.getElem?_eq_getElem (by rw [hx]; decide)⟩
  have g1 : DataW.trod enc Try.prog W base spare held n 9 (([c0, c1, c2, c3, c4, c5, c6].drop 1).take (Try.prog.cellsOf 9)) = xs[1]? := hf 1 _ rfl
  rw [e1, show Try.prog.cellsOf 9 = 1 by kernel_rfl] at g1
  obtain ⟨x1, k1', o1, b1⟩ := (opens_string enc Try.prog W base spare held Try.underlying9) _ [c1] y1 g1
  obtain ⟨y2, e2⟩ : ∃ y, xs[2]? = some y := ⟨_, List.getElem?_eq_getElem (by rw [hx]; decide)⟩
  have g2 : DataW.trod enc Try.prog W base spare held n 3 (([c0, c1, c2, c3, c4, c5, c6].drop 2).take (Try.prog.cellsOf 3)) = xs[2]? := hf 2 _ rfl
  rw [e2, show Try.prog.cellsOf 3 = 1 by kernel_rfl] at g2
  obtain ⟨x2, k2', o2, b2⟩ := (opens_int enc Try.prog W base spare held Try.underlying3) _ [c2] y2 g2
  obtain ⟨y3, e3⟩ : ∃ y, xs[3]? = some y := ⟨_, List.getElem?_eq_getElem (by rw [hx]; decide)⟩
  have g3 : DataW.trod enc Try.prog W base spare held n 3 (([c0, c1, c2, c3, c4, c5, c6].drop 3).take (Try.prog.cellsOf 3)) = xs[3]? := hf 3 _ rfl
  rw [e3, show Try.prog.cellsOf 3 = 1 by kernel_rfl] at g3
  obtain ⟨x3, k3', o3, b3⟩ := (opens_int enc Try.prog W base spare held Try.underlying3) _ [c3] y3 g3
  obtain ⟨y4, e4⟩ : ∃ y, xs[4]? = some y := ⟨_, List.getElem?_eq_getElem (by rw [hx]; decide)⟩
  have g4 : DataW.trod enc Try.prog W base spare held n 3 (([c0, c1, c2, c3, c4, c5, c6].drop 4).take (Try.prog.cellsOf 3)) = xs[4]? := hf 4 _ rfl
  rw [e4, show Try.prog.cellsOf 3 = 1 by kernel_rfl] at g4
  obtain ⟨x4, k4', o4, b4⟩ := (opens_int enc Try.prog W base spare held Try.underlying3) _ [c4] y4 g4
  obtain ⟨y5, e5⟩ : ∃ y, xs[5]? = some y := ⟨_, List.getElem?_eq_getElem (by rw [hx]; decide)⟩
  have g5 : DataW.trod enc Try.prog W base spare held n 3 (([c0, c1, c2, c3, c4, c5, c6].drop 5).take (Try.prog.cellsOf 3)) = xs[5]? := hf 5 _ rfl
  rw [e5, show Try.prog.cellsOf 3 = 1 by kernel_rfl] at g5
  obtain ⟨x5, k5', o5, b5⟩ := (opens_int enc Try.prog W base spare held Try.underlying3) _ [c5] y5 g5
  obtain ⟨y6, e6⟩ : ∃ y, xs[6]? = some y := ⟨_, List.getElem?_eq_getElem (by rw [hx]; decide)⟩
  have g6 : DataW.trod enc Try.prog W base spare held n 3 (([c0, c1, c2, c3, c4, c5, c6].drop 6).take (Try.prog.cellsOf 3)) = xs[6]? := hf 6 _ rfl
  rw [e6, show Try.prog.cellsOf 3 = 1 by kernel_rfl] at g6
  obtain ⟨x6, k6', o6, b6⟩ := (opens_int enc Try.prog W base spare held Try.underlying3) _ [c6] y6 g6
  obtain rfl : xs = [y0, y1, y2, y3, y4, y5, y6] := by
    apply List.ext_getElem?
    intro i
    have hx' : xs.length = 7 := hx
    match i with
    | 0 => exact e0
    | 1 => exact e1
    | 2 => exact e2
    | 3 => exact e3
    | 4 => exact e4
    | 5 => exact e5
    | 6 => exact e6
    | i + 7 => rw [List.getElem?_eq_none (by omega), List.getElem?_eq_none (by simp)]
  have b0' : (x0.size + 1) ≤ Rows.uptoBulk y0.1 := b0
  have b1' : (x1.size + 1) ≤ Rows.uptoBulk y1.1 := b1
  have b2' : 1 ≤ Rows.uptoBulk y2.1 := b2
  have b3' : 1 ≤ Rows.uptoBulk y3.1 := b3
  have b4' : 1 ≤ Rows.uptoBulk y4.1 := b4
  have b5' : 1 ≤ Rows.uptoBulk y5.1 := b5
  have b6' : 1 ≤ Rows.uptoBulk y6.1 := b6
  refine ⟨⟨x0, x1, x2, x3, x4, x5, x6⟩, ⟨[c0], _, rfl, k0', ⟨[c1], _, rfl, k1', ⟨[c2], _, rfl, k2', ⟨[c3], _, rfl, k3', ⟨[c4], _, rfl, k4', ⟨[c5], _, rfl, k5', k6'⟩⟩⟩⟩⟩⟩, ⟨o0, o1, o2, o3, o4, o5, o6⟩, ?_⟩
  simp only [bk59, List.map_cons, List.map_nil, Rows.uptoBulk, Rows.uptoBulkAll]
  skip
  omega
end Go.Proofs.Ytndcjleadggibaa.OkRdT
