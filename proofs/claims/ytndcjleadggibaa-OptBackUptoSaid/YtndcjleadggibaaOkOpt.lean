/- Of each kind of record: what is known of one that came in, how much it is; its data open as the print's values. -/
import Derived.Test.YtndcjleadggibaaOpenKd
import Derived.Test.YtndcjleadggibaaPOptx0
namespace Go.Proofs.Ytndcjleadggibaa.OkOpt
open Go.ChangeShapes Go.WideShapes Go.ChangeAt Go.RowKit Go.Proofs.YtndcjleadggibaaW.PrintWords Go.Proofs.Ytndcjleadggibaa.POpt Go.Proofs.Ytndcjleadggibaa.OpenKd
set_option linter.unusedVariables false
def ok52 (x : S52) : Prop := ((fun x => (Lit.int .i64 x).wf = true) x.f0) ∧ ((fun s => s.size ≤ maxLen) x.f1)
def bk52 (x : S52) : Nat := 1 + (x.f1.size + 1) + 1
theorem cells52 : ∀ {l : List Value}, l.length = 2 → ∃ c0 c1, l = [c0, c1]
  | [c0, c1], _ => ⟨c0, c1, rfl⟩
theorem opens52 {H : Type} (enc : TypeId × Value → H) (W : World) (base : Nat) (spare : Nat → Bool) (held : Bool) : Opens enc Try.prog W base spare held 52 k52 ok52 bk52 := by
  intro fuel cs y h
  obtain ⟨xs, n, rfl, rfl, hl, hx, hf⟩ := DataW.trod_struct Try.underlying52 h
  obtain ⟨c0, c1, rfl⟩ := cells52 (hl.trans (by kernel_rfl))
  obtain ⟨y0, e0⟩ : ∃ y, xs[0]? = some y := ⟨_, List.getElem?_eq_getElem (by rw [hx]; decide)⟩
  have g0 : DataW.trod enc Try.prog W base spare held n 3 (([c0, c1].drop 0).take (Try.prog.cellsOf 3)) = xs[0]? := hf 0 _ rfl
  rw [e0, show Try.prog.cellsOf 3 = 1 by kernel_rfl] at g0
  obtain ⟨x0, k0', o0, b0⟩ := (opens_int enc Try.prog W base spare held Try.underlying3) _ [c0] y0 g0
  obtain ⟨y1, e1⟩ : ∃ y, xs[1]? = some y := ⟨_, List.getElem?_eq_getElem (by rw [hx]; decide)⟩
  have g1 : DataW.trod enc Try.prog W base spare held n 9 (([c0, c1].drop 1).take (Try.prog.cellsOf 9)) = xs[1]? := hf 1 _ rfl
  rw [e1, show Try.prog.cellsOf 9 = 1 by kernel_rfl] at g1
  obtain ⟨x1, k1', o1, b1⟩ := (opens_string enc Try.prog W base spare held Try.underlying9) _ [c1] y1 g1
  obtain rfl : xs = [y0, y1] := by
    apply List.ext_getElem?
    intro i
    have hx' : xs.length = 2 := hx
    match i with
    | 0 => exact e0
    | 1 => exact e1
    | i + 2 => rw [List.getElem?_eq_none (by omega), List.getElem?_eq_none (by simp)]
  have b0' : 1 ≤ Rows.uptoBulk y0.1 := b0
  have b1' : (x1.size + 1) ≤ Rows.uptoBulk y1.1 := b1
  refine ⟨⟨x0, x1⟩, ⟨[c0], _, rfl, k0', k1'⟩, ⟨o0, o1⟩, ?_⟩
  simp only [bk52, List.map_cons, List.map_nil, Rows.uptoBulk, Rows.uptoBulkAll]
  skip
  omega
structure S24 where
  f0 : Int
  f1 : Int
  f2 : Int
  f3 : Bool
  f4 : Int
  f5 : List (S52)
def k24 : Kd S24 := Kd.iso (Kd.pair (Kd.int .i64) (Kd.pair (Kd.int .i64) (Kd.pair (Kd.int .i64) (Kd.pair Kd.bool (Kd.pair (Kd.int .i64) (Kd.slice 52 k52)))))) (fun x : S24 => (x.f0, x.f1, x.f2, x.f3, x.f4, x.f5))
def ok24 (x : S24) : Prop := ((fun x => (Lit.int .i64 x).wf = true) x.f0) ∧ ((fun x => (Lit.int .i64 x).wf = true) x.f1) ∧ ((fun x => (Lit.int .i64 x).wf = true) x.f2) ∧ ((fun _ => True) x.f3) ∧ ((fun x => (Lit.int .i64 x).wf = true) x.f4) ∧ ((fun xs => ∀ x ∈ xs, ok52 x) x.f5)
def bk24 (x : S24) : Nat := 1 + 1 + 1 + 1 + 1 + bks bk52 x.f5 + 1
theorem cells24 : ∀ {l : List Value}, l.length = 6 → ∃ c0 c1 c2 c3 c4 c5, l = [c0, c1, c2, c3, c4, c5]
  | [c0, c1, c2, c3, c4, c5], _ => ⟨c0, c1, c2, c3, c4, c5, rfl⟩
theorem opens24 {H : Type} (enc : TypeId × Value → H) (W : World) (base : Nat) (spare : Nat → Bool) (held : Bool) : Opens enc Try.prog W base spare held 24 k24 ok24 bk24 := by
  intro fuel cs y h
  obtain ⟨xs, n, rfl, rfl, hl, hx, hf⟩ := DataW.trod_struct Try.underlying24 h
  obtain ⟨c0, c1, c2, c3, c4, c5, rfl⟩ := cells24 (hl.trans (by kernel_rfl))
  obtain ⟨y0, e0⟩ : ∃ y, xs[0]? = some y := ⟨_, List.getElem?_eq_getElem (by rw [hx]; decide)⟩
  have g0 : DataW.trod enc Try.prog W base spare held n 3 (([c0, c1, c2, c3, c4, c5].drop 0).take (Try.prog.cellsOf 3)) = xs[0]? := hf 0 _ rfl
  rw [e0, show Try.prog.cellsOf 3 = 1 by kernel_rfl] at g0
  obtain ⟨x0, k0', o0, b0⟩ := (opens_int enc Try.prog W base spare held Try.underlying3) _ [c0] y0 g0
  obtain ⟨y1, e1⟩ : ∃ y, xs[1]? = some y := ⟨_, List.getElem?_eq_getElem (by rw [hx]; decide)⟩
  have g1 : DataW.trod enc Try.prog W base spare held n 3 (([c0, c1, c2, c3, c4, c5].drop 1).take (Try.prog.cellsOf 3)) = xs[1]? := hf 1 _ rfl
  rw [e1, show Try.prog.cellsOf 3 = 1 by kernel_rfl] at g1
  obtain ⟨x1, k1', o1, b1⟩ := (opens_int enc Try.prog W base spare held Try.underlying3) _ [c1] y1 g1
  obtain ⟨y2, e2⟩ : ∃ y, xs[2]? = some y := ⟨_, List.getElem?_eq_getElem (by rw [hx]; decide)⟩
  have g2 : DataW.trod enc Try.prog W base spare held n 3 (([c0, c1, c2, c3, c4, c5].drop 2).take (Try.prog.cellsOf 3)) = xs[2]? := hf 2 _ rfl
  rw [e2, show Try.prog.cellsOf 3 = 1 by kernel_rfl] at g2
  obtain ⟨x2, k2', o2, b2⟩ := (opens_int enc Try.prog W base spare held Try.underlying3) _ [c2] y2 g2
  obtain ⟨y3, e3⟩ : ∃ y, xs[3]? = some y := ⟨_, List.getElem?_eq_getElem (by rw [hx]; decide)⟩
  have g3 : DataW.trod enc Try.prog W base spare held n 4 (([c0, c1, c2, c3, c4, c5].drop 3).take (Try.prog.cellsOf 4)) = xs[3]? := hf 3 _ rfl
  rw [e3, show Try.prog.cellsOf 4 = 1 by kernel_rfl] at g3
  obtain ⟨x3, k3', o3, b3⟩ := (opens_bool enc Try.prog W base spare held Try.underlying4) _ [c3] y3 g3
  obtain ⟨y4, e4⟩ : ∃ y, xs[4]? = some y := ⟨_, List.getElem?_eq_getElem (by rw [hx]; decide)⟩
  have g4 : DataW.trod enc Try.prog W base spare held n 3 (([c0, c1, c2, c3, c4, c5].drop 4).take (Try.prog.cellsOf 3)) = xs[4]? := hf 4 _ rfl
  rw [e4, show Try.prog.cellsOf 3 = 1 by kernel_rfl] at g4
  obtain ⟨x4, k4', o4, b4⟩ := (opens_int enc Try.prog W base spare held Try.underlying3) _ [c4] y4 g4
  obtain ⟨y5, e5⟩ : ∃ y, xs[5]? = some y := ⟨_, List.getElem?_eq_getElem (by rw [hx]; decide)⟩
  have g5 : DataW.trod enc Try.prog W base spare held n 22 (([c0, c1, c2, c3, c4, c5].drop 5).take (Try.prog.cellsOf 22)) = xs[5]? := hf 5 _ rfl
  rw [e5, show Try.prog.cellsOf 22 = 1 by kernel_rfl] at g5
  obtain ⟨x5, k5', o5, b5⟩ := (opens_slice enc Try.prog W base spare held Try.underlying22 (by kernel_rfl) (opens52 enc W base spare held)) _ [c5] y5 g5
  obtain rfl : xs = [y0, y1, y2, y3, y4, y5] := by
    apply List.ext_getElem?
    intro i
    have hx' : xs.length = 6 := hx
    match i with
    | 0 => exact e0
    | 1 => exact e1
    | 2 => exact e2
    | 3 => exact e3
    | 4 => exact e4
    | 5 => exact e5
    | i + 6 => rw [List.getElem?_eq_none (by omega), List.getElem?_eq_none (by simp)]
  have b0' : 1 ≤ Rows.uptoBulk y0.1 := b0
  have b1' : 1 ≤ Rows.uptoBulk y1.1 := b1
  have b2' : 1 ≤ Rows.uptoBulk y2.1 := b2
  have b3' : 1 ≤ Rows.uptoBulk y3.1 := b3
  have b4' : 1 ≤ Rows.uptoBulk y4.1 := b4
  have b5' : bks bk52 x5 ≤ Rows.uptoBulk y5.1 := b5
  refine ⟨⟨x0, x1, x2, x3, x4, x5⟩, ⟨[c0], _, rfl, k0', ⟨[c1], _, rfl, k1', ⟨[c2], _, rfl, k2', ⟨[c3], _, rfl, k3', ⟨[c4], _, rfl, k4', k5'⟩⟩⟩⟩⟩, ⟨o0, o1, o2, o3, o4, o5⟩, ?_⟩
  simp only [bk24, List.map_cons, List.map_nil, Rows.uptoBulk, Rows.uptoBulkAll]
  skip
  omega
def ok26 (x : S26) : Prop := ((fun s => s.size ≤ maxLen) x.f0) ∧ ((fun x => (Lit.int .i64 x).wf = true) x.f1) ∧ ((fun x => (Lit.int .i64 x).wf = true) x.f2) ∧ ((fun x => (Lit.int .i64 x).wf = true) x.f3) ∧ ((fun s => s.size ≤ maxLen) x.f4)
def bk26 (x : S26) : Nat := (x.f0.size + 1) + 1 + 1 + 1 + (x.f4.size + 1) + 1
theorem cells26 : ∀ {l : List Value}, l.length = 5 → ∃ c0 c1 c2 c3 c4, l = [c0, c1, c2, c3, c4]
  | [c0, c1, c2, c3, c4], _ => ⟨c0, c1, c2, c3, c4, rfl⟩
theorem opens26 {H : Type} (enc : TypeId × Value → H) (W : World) (base : Nat) (spare : Nat → Bool) (held : Bool) : Opens enc Try.prog W base spare held 26 k26 ok26 bk26 := by
  intro fuel cs y h
  obtain ⟨xs, n, rfl, rfl, hl, hx, hf⟩ := DataW.trod_struct Try.underlying26 h
  obtain ⟨c0, c1, c2, c3, c4, rfl⟩ := cells26 (hl.trans (by kernel_rfl))
  obtain ⟨y0, e0⟩ : ∃ y, xs[0]? = some y := ⟨_, List.getElem?_eq_getElem (by rw [hx]; decide)⟩
  have g0 : DataW.trod enc Try.prog W base spare held n 9 (([c0, c1, c2, c3, c4].drop 0).take (Try.prog.cellsOf 9)) = xs[0]? := hf 0 _ rfl
  rw [e0, show Try.prog.cellsOf 9 = 1 by kernel_rfl] at g0
  obtain ⟨x0, k0', o0, b0⟩ := (opens_string enc Try.prog W base spare held Try.underlying9) _ [c0] y0 g0
  obtain ⟨y1, e1⟩ : ∃ y, xs[1]? = some y := ⟨_, List.getElem?_eq_getElem (by rw [hx]; decide)⟩
  have g1 : DataW.trod enc Try.prog W base spare held n 3 (([c0, c1, c2, c3, c4].drop 1).take (Try.prog.cellsOf 3)) = xs[1]? := hf 1 _ rfl
  rw [e1, show Try.prog.cellsOf 3 = 1 by kernel_rfl] at g1
  obtain ⟨x1, k1', o1, b1⟩ := (opens_int enc Try.prog W base spare held Try.underlying3) _ [c1] y1 g1
  obtain ⟨y2, e2⟩ : ∃ y, xs[2]? = some y := ⟨_, List.getElem?_eq_getElem (by rw [hx]; decide)⟩
  have g2 : DataW.trod enc Try.prog W base spare held n 3 (([c0, c1, c2, c3, c4].drop 2).take (Try.prog.cellsOf 3)) = xs[2]? := hf 2 _ rfl
  rw [e2, show Try.prog.cellsOf 3 = 1 by kernel_rfl] at g2
  obtain ⟨x2, k2', o2, b2⟩ := (opens_int enc Try.prog W base spare held Try.underlying3) _ [c2] y2 g2
  obtain ⟨y3, e3⟩ : ∃ y, xs[3]? = some y := ⟨_, List.getElem?_eq_getElem (by rw [hx]; decide)⟩
  have g3 : DataW.trod enc Try.prog W base spare held n 3 (([c0, c1, c2, c3, c4].drop 3).take (Try.prog.cellsOf 3)) = xs[3]? := hf 3 _ rfl
  rw [e3, show Try.prog.cellsOf 3 = 1 by kernel_rfl] at g3
  obtain ⟨x3, k3', o3, b3⟩ := (opens_int enc Try.prog W base spare held Try.underlying3) _ [c3] y3 g3
  obtain ⟨y4, e4⟩ : ∃ y, xs[4]? = some y := ⟨_, List.getElem?_eq_getElem (by rw [hx]; decide)⟩
  have g4 : DataW.trod enc Try.prog W base spare held n 9 (([c0, c1, c2, c3, c4].drop 4).take (Try.prog.cellsOf 9)) = xs[4]? := hf 4 _ rfl
  rw [e4, show Try.prog.cellsOf 9 = 1 by kernel_rfl] at g4
  obtain ⟨x4, k4', o4, b4⟩ := (opens_string enc Try.prog W base spare held Try.underlying9) _ [c4] y4 g4
  obtain rfl : xs = [y0, y1, y2, y3, y4] := by
    apply List.ext_getElem?
    intro i
    have hx' : xs.length = 5 := hx
    match i with
    | 0 => exact e0
    | 1 => exact e1
    | 2 => exact e2
    | 3 => exact e3
    | 4 => exact e4
    | i + 5 => rw [List.getElem?_eq_none (by omega), List.getElem?_eq_none (by simp)]
  have b0' : (x0.size + 1) ≤ Rows.uptoBulk y0.1 := b0
  have b1' : 1 ≤ Rows.uptoBulk y1.1 := b1
  have b2' : 1 ≤ Rows.uptoBulk y2.1 := b2
  have b3' : 1 ≤ Rows.uptoBulk y3.1 := b3
  have b4' : (x4.size + 1) ≤ Rows.uptoBulk y4.1 := b4
  refine ⟨⟨x0, x1, x2, x3, x4⟩, ⟨[c0], _, rfl, k0', ⟨[c1], _, rfl, k1', ⟨[c2], _, rfl, k2', ⟨[c3], _, rfl, k3', k4'⟩⟩⟩⟩, ⟨o0, o1, o2, o3, o4⟩, ?_⟩
  simp only [bk26, List.map_cons, List.map_nil, Rows.uptoBulk, Rows.uptoBulkAll]
  skip
  omega
end Go.Proofs.Ytndcjleadggibaa.OkOpt
