/- The row of the law WireBack, where what it reads weighs no more than the reach, out of its pure statement and the printed walk. -/
import Derived.Test.YtjklgdpffmaamaaRows
import Derived.WalkKit
import Derived.ProofKit
import Derived.ChangeArms
import Derived.DataReads
import Derived.SizedLaws
import Derived.OpenShut
import Derived.ShutString
import Derived.ChangeOld
import Derived.Below
import Derived.Carry
import Derived.Test.YtjklgdpffmaamaaSb1
import Derived.Test.YtjklgdpffmaamaaSb2
import Derived.Test.YtjklgdpffmaamaaSb3
import Derived.Test.YtjklgdpffmaamaaSb4
import Derived.Test.YtjklgdpffmaamaaSb5
import Derived.Test.YtjklgdpffmaamaaSb6
namespace Go.Proofs.Ytjklgdpffmaamaa.OpenZd
open Go.ChangeShapes Go.WideShapes Go.ChangeAt Go.RowKit Go.Proofs.YtjklgdpffmaamaaW.PrintWords
set_option linter.unusedVariables false
theorem add_two (a : Addr) (i j : Nat) : (a.add i).add j = a.add (i + j) := by
  unfold Addr.add
  by_cases hi : i = 0
  · simp [hi]
  · by_cases hj : j = 0
    · simp [hj]
    · simp [hi, hj, Nat.add_assoc]
theorem weights_all {H : Type} {P : Program} {e : TypeId} : ∀ {ds : List (DataW H)} {d : DataW H}, d ∈ ds → ∀ n ∈ d.weights P e, n ∈ DataW.weightsAll P e ds
  | [], _, h, _, _ => by cases h
  | x :: xs, d, h, n, hn => by
    rcases List.mem_cons.1 h with rfl | h
    · simp only [DataW.weightsAll, List.mem_append]; exact Or.inl hn
    · simp only [DataW.weightsAll, List.mem_append]; exact Or.inr (weights_all h n hn)
section
variable {H : Type} (enc : TypeId × Value → H) (P : Program) (W : World) (base : Nat) (spare : Nat → Bool) (held : Bool)
/-- Nothing of it weighs more than the reach. -/
def Light (t : TypeId) (d : DataW H) : Prop := ∀ n ∈ d.weights P t, n ≤ reachBytes
/-- Each datum of the type reads as a value of the kind; what is known of it. -/
def Opens {α : Type} (t : TypeId) (d : Kd α) (ok : α → Prop) : Prop :=
  ∀ fuel cs y, DataW.trod enc P W base spare held fuel t cs = some y → Light P t y.1 → ∃ x, d.K W x cs ∧ ok x
theorem opens_int {t : TypeId} {k : IntKind} (hu : P.underlying t = some (.int k)) : Opens enc P W base spare held t (Kd.int k) (fun x => (Lit.int k x).wf = true) := by
  intro fuel cs y h _
  obtain ⟨n, rfl, rfl, hw⟩ := DataW.trod_int hu h
  exact ⟨n, rfl, hw⟩
theorem opens_bool {t : TypeId} (hu : P.underlying t = some .bool) : Opens enc P W base spare held t Kd.bool (fun _ => True) := by
  intro fuel cs y h _
  obtain ⟨n, rfl, rfl⟩ := DataW.trod_bool hu h
  exact ⟨n, rfl, trivial⟩
theorem opens_string {t : TypeId} (hu : P.underlying t = some .string) : Opens enc P W base spare held t Kd.string (fun s => s.size ≤ 140737488351232) := by
  intro fuel cs y h hl
  obtain ⟨s, rfl, rfl, hw⟩ := DataW.trod_string hu h
  refine ⟨s, rfl, ?_⟩
  have := hl s.data.toList.length (by simp [DataW.weights])
  rw [Array.length_toList] at this
  exact this
variable {enc P W base spare held}
/-- A slice of elements of a kind: its value, and that it reads as a list. -/
theorem open_slice {α : Type} {t e : TypeId} {d : Kd α} {ok : α → Prop} (hu : P.underlying t = some (.slice e)) (hsz : P.cellsOf e = d.sz) (ho : Opens enc P W base spare held e d ok)
    {fuel : Nat} {cs : List Value} {y : DataW H × List MemPlace} (h : DataW.trod enc P W base spare held fuel t cs = some y) (hl : Light P t y.1) :
    ∃ (A : Option Addr) (xs : List α) (c : Nat), cs = [.slice A xs.length c] ∧ xs.length ≤ c ∧ d.C W A xs.length xs ∧ (xs.length * P.bytesOf e ≤ 140737488351232 ∧ ∀ x ∈ xs, ok x) := by
  rcases DataW.trod_slice hu h with ⟨rfl, rfl⟩ | ⟨a, len, cap, elems, rest, n, _, rfl, rfl, hb, hln, hm, hlen, hel, hsp, hns⟩
  · exact ⟨none, [], 0, rfl, Nat.le_refl _, ⟨rfl, by simp, fun h => by simp at h⟩, by simp⟩
  have light : ∀ i (hi : i < elems.length), Light P e elems[i].1 := by
    intro i hi w hw
    refine hl w ?_
    simp only [DataW.weights, hu, List.mem_cons, List.mem_append]
    exact Or.inr (Or.inl (weights_all (d := elems[i].1) (List.mem_map.2 ⟨elems[i], List.getElem_mem hi, rfl⟩) w hw))
  have key : ∀ m, m ≤ len → ∃ xs : List α, xs.length = m ∧ (∀ x ∈ xs, ok x) ∧
      ∀ i (hi : i < xs.length), ∃ c, c.length = d.sz ∧ d.K W xs[i] c ∧ ∀ j u, c[j]? = some u → W.cell? (a.add (i * d.sz + j)) = some u := by
    intro m
    induction m with
    | zero => exact fun _ => ⟨[], rfl, by simp, by simp⟩
    | succ m ih =>
      intro hm'
      obtain ⟨xs, hx, h1, h3⟩ := ih (by omega)
      have hi : m < elems.length := by omega
      have e0 := hel m (by omega)
      rw [List.getElem?_eq_getElem hi, Option.bind_eq_some_iff] at e0
      obtain ⟨c, hc, ht⟩ := e0
      obtain ⟨x, hk, hok⟩ := ho _ _ _ ht (light m hi)
      obtain ⟨_, hcl, hcc⟩ := World.cells?_some hc
      rw [hsz] at hcl hcc
      refine ⟨xs ++ [x], by simp [hx], ?_, ?_⟩
      · intro z hz
        rcases List.mem_append.1 hz with hz | hz
        · exact h1 z hz
        · rw [List.mem_singleton.1 hz]; exact hok
      · intro i hi2
        by_cases hlt : i < xs.length
        · rw [List.getElem_append_left hlt]; exact h3 i hlt
        · have : i = m := by rw [List.length_append, List.length_singleton] at hi2; omega
          subst this
          rw [List.getElem_append_right (by omega)]
          refine ⟨c, hcl, by simpa using hk, fun j u hj => ?_⟩
          have hj' : j < d.sz := by rw [← hcl]; exact (List.getElem?_eq_some_iff.1 hj).1
          have := hcc j hj'
          rw [hj] at this
          rw [← this, add_two]
  obtain ⟨xs, hx, h1, h3⟩ := key len (Nat.le_refl _)
  refine ⟨some a, xs, cap, by rw [hx], by omega, ⟨rfl, by unfold maxLen at hm; omega, fun _ => ⟨a, rfl, fun j p hj => ?_⟩⟩, ?_, h1⟩
  · obtain ⟨hj', rfl⟩ := List.getElem?_eq_some_iff.1 hj
    exact h3 j hj'
  · have := hl ((elems.map (·.1)).length + (rest.map (·.1)).length |> (· * P.bytesOf e)) (by simp [DataW.weights, hu])
    have h2 : xs.length * P.bytesOf e ≤ ((elems.map (·.1)).length + (rest.map (·.1)).length) * P.bytesOf e := Nat.mul_le_mul_right _ (by rw [List.length_map]; omega)
    exact Nat.le_trans h2 this
variable (enc P W base spare held)
theorem opens_slice {α : Type} {t e : TypeId} {d : Kd α} {ok : α → Prop} (hu : P.underlying t = some (.slice e)) (hsz : P.cellsOf e = d.sz) (ho : Opens enc P W base spare held e d ok) :
    Opens enc P W base spare held t (Kd.slice e d) (fun xs => xs.length * P.bytesOf e ≤ 140737488351232 ∧ ∀ x ∈ xs, ok x) := by
  intro fuel cs y h hl
  obtain ⟨A, xs, c, rfl, hlen, hC, h1⟩ := open_slice hu hsz ho h hl
  exact ⟨xs, ⟨A, c, rfl, hlen, hC⟩, h1⟩
theorem light_each {ts : List TypeId} {ds : List (DataW H)} (h : (DataW.weightsEach P ts ds).all (· ≤ reachBytes) = true) {j : Nat} {t : TypeId} {d : DataW H} (ht : ts[j]? = some t) (hd : ds[j]? = some d) : Light P t d := fun n hn => by
  have := List.all_eq_true.1 h n (DataW.weights_mem_each ht hd n hn)
  simpa using this
theorem light_part {t : TypeId} {fs : Array Field} (hu : P.underlying t = some (.struct fs)) {parts : List (DataW H)} (h : Light P t (.agg parts)) {j : Nat} {u : TypeId} {d : DataW H} (ht : (fs.toList.map (·.type))[j]? = some u) (hd : parts[j]? = some d) : Light P u d := fun n hn => by
  refine h n ?_
  simp only [DataW.weights, hu]
  exact DataW.weights_mem_each ht hd n hn
end
end Go.Proofs.Ytjklgdpffmaamaa.OpenZd

namespace Go.Proofs.Ytjklgdpffmaamaa.OkzWb
open Go.ChangeShapes Go.WideShapes Go.ChangeAt Go.RowKit Go.Proofs.YtjklgdpffmaamaaW.PrintWords Go.Proofs.Ytjklgdpffmaamaa.PWb Go.Proofs.Ytjklgdpffmaamaa.OpenZd
set_option linter.unusedVariables false
structure S23 where
  f0 : Int
  f1 : Bool
  f2 : Int
  f3 : Bool
  f4 : Bool
  f5 : Bool
  f6 : Bool
  f7 : Int
  f8 : Int
def k23 : Kd S23 := Kd.iso (Kd.pair (Kd.int .i64) (Kd.pair Kd.bool (Kd.pair (Kd.int .i64) (Kd.pair Kd.bool (Kd.pair Kd.bool (Kd.pair Kd.bool (Kd.pair Kd.bool (Kd.pair (Kd.int .i64) (Kd.int .i64))))))))) (fun x : S23 => (x.f0, x.f1, x.f2, x.f3, x.f4, x.f5, x.f6, x.f7, x.f8))
def ok23 (x : S23) : Prop := ((fun x => (Lit.int .i64 x).wf = true) x.f0) ∧ ((fun _ => True) x.f1) ∧ ((fun x => (Lit.int .i64 x).wf = true) x.f2) ∧ ((fun _ => True) x.f3) ∧ ((fun _ => True) x.f4) ∧ ((fun _ => True) x.f5) ∧ ((fun _ => True) x.f6) ∧ ((fun x => (Lit.int .i64 x).wf = true) x.f7) ∧ ((fun x => (Lit.int .i64 x).wf = true) x.f8)
theorem cells23 : ∀ {l : List Value}, l.length = 9 → ∃ c0 c1 c2 c3 c4 c5 c6 c7 c8, l = [c0, c1, c2, c3, c4, c5, c6, c7, c8]
  | [c0, c1, c2, c3, c4, c5, c6, c7, c8], _ => ⟨c0, c1, c2, c3, c4, c5, c6, c7, c8, rfl⟩
theorem opens23 {H : Type} (enc : TypeId × Value → H) (W : World) (base : Nat) (spare : Nat → Bool) (held : Bool) : Opens enc Try.prog W base spare held 23 k23 ok23 := by
  intro fuel cs y h hlt
  obtain ⟨xs, n, rfl, rfl, hl, hx, hf⟩ := DataW.trod_struct Try.underlying23 h
  obtain ⟨c0, c1, c2, c3, c4, c5, c6, c7, c8, rfl⟩ := cells23 (hl.trans (by kernel_rfl))
  obtain ⟨y0, e0⟩ : ∃ y, xs[0]? = some y := ⟨_, List.getElem?_eq_getElem (by rw [hx]; decide)⟩
  have g0 : DataW.trod enc Try.prog W base spare held n 3 (([c0, c1, c2, c3, c4, c5, c6, c7, c8].drop 0).take (Try.prog.cellsOf 3)) = xs[0]? := hf 0 _ rfl
  rw [e0, show Try.prog.cellsOf 3 = 1 by kernel_rfl] at g0
  obtain ⟨x0, k0', o0⟩ := (opens_int enc Try.prog W base spare held Try.underlying3) _ [c0] y0 g0 (light_part Try.prog Try.underlying23 hlt (j := 0) (by kernel_rfl) (by rw [List.getElem?_map, e0]; rfl))
  obtain ⟨y1, e1⟩ : ∃ y, xs[1]? = some y := ⟨_, List.getElem?_eq_getElem (by rw [hx]; decide)⟩
  have g1 : DataW.trod enc Try.prog W base spare held n 4 (([c0, c1, c2, c3, c4, c5, c6, c7, c8].drop 1).take (Try.prog.cellsOf 4)) = xs[1]? := hf 1 _ rfl
  rw [e1, show Try.prog.cellsOf 4 = 1 by kernel_rfl] at g1
  obtain ⟨x1, k1', o1⟩ := (opens_bool enc Try.prog W base spare held Try.underlying4) _ [c1] y1 g1 (light_part Try.prog Try.underlying23 hlt (j := 1) (by kernel_rfl) (by rw [List.getElem?_map, e1]; rfl))
  obtain ⟨y2, e2⟩ : ∃ y, xs[2]? = some y := ⟨_, List.getElem?_eq_getElem (by rw [hx]; decide)⟩
  have g2 : DataW.trod enc Try.prog W base spare held n 3 (([c0, c1, c2, c3, c4, c5, c6, c7, c8].drop 2).take (Try.prog.cellsOf 3)) = xs[2]? := hf 2 _ rfl
  rw [e2, show Try.prog.cellsOf 3 = 1 by kernel_rfl] at g2
  obtain ⟨x2, k2', o2⟩ := (opens_int enc Try.prog W base spare held Try.underlying3) _ [c2] y2 g2 (light_part Try.prog Try.underlying23 hlt (j := 2) (by kernel_rfl) (by rw [List.getElem?_map, e2]; rfl))
  obtain ⟨y3, e3⟩ : ∃ y, xs[3]? = some y := ⟨_, List.getElem?_eq_getElem (by rw [hx]; decide)⟩
  have g3 : DataW.trod enc Try.prog W base spare held n 4 (([c0, c1, c2, c3, c4, c5, c6, c7, c8].drop 3).take (Try.prog.cellsOf 4)) = xs[3]? := hf 3 _ rfl
  rw [e3, show Try.prog.cellsOf 4 = 1 by kernel_rfl] at g3
  obtain ⟨x3, k3', o3⟩ := (opens_bool enc Try.prog W base spare held Try.underlying4) _ [c3] y3 g3 (light_part Try.prog Try.underlying23 hlt (j := 3) (by kernel_rfl) (by rw [List.getElem?_map, e3]; rfl))
  obtain ⟨y4, e4⟩ : ∃ y, xs[4]? = some y := ⟨_, List.getElem?_eq_getElem (by rw [hx]; decide)⟩
  have g4 : DataW.trod enc Try.prog W base spare held n 4 (([c0, c1, c2, c3, c4, c5, c6, c7, c8].drop 4).take (Try.prog.cellsOf 4)) = xs[4]? := hf 4 _ rfl
  rw [e4, show Try.prog.cellsOf 4 = 1 by kernel_rfl] at g4
  obtain ⟨x4, k4', o4⟩ := (opens_bool enc Try.prog W base spare held Try.underlying4) _ [c4] y4 g4 (light_part Try.prog Try.underlying23 hlt (j := 4) (by kernel_rfl) (by rw [List.getElem?_map, e4]; rfl))
  obtain ⟨y5, e5⟩ : ∃ y, xs[5]? = some y := ⟨_, List.getElem?_eq_getElem (by rw [hx]; decide)⟩
  have g5 : DataW.trod enc Try.prog W base spare held n 4 (([c0, c1, c2, c3, c4, c5, c6, c7, c8].drop 5).take (Try.prog.cellsOf 4)) = xs[5]? := hf 5 _ rfl
  rw [e5, show Try.prog.cellsOf 4 = 1 by kernel_rfl] at g5
  obtain ⟨x5, k5', o5⟩ := (opens_bool enc Try.prog W base spare held Try.underlying4) _ [c5] y5 g5 (light_part Try.prog Try.underlying23 hlt (j := 5) (by kernel_rfl) (by rw [List.getElem?_map, e5]; rfl))
  obtain ⟨y6, e6⟩ : ∃ y, xs[6]? = some y := ⟨_, List.getElem?_eq_getElem (by rw [hx]; decide)⟩
  have g6 : DataW.trod enc Try.prog W base spare held n 4 (([c0, c1, c2, c3, c4, c5, c6, c7, c8].drop 6).take (Try.prog.cellsOf 4)) = xs[6]? := hf 6 _ rfl
  rw [e6, show Try.prog.cellsOf 4 = 1 by kernel_rfl] at g6
  obtain ⟨x6, k6', o6⟩ := (opens_bool enc Try.prog W base spare held Try.underlying4) _ [c6] y6 g6 (light_part Try.prog Try.underlying23 hlt (j := 6) (by kernel_rfl) (by rw [List.getElem?_map, e6]; rfl))
  obtain ⟨y7, e7⟩ : ∃ y, xs[7]? = some y := ⟨_, List.getElem?_eq_getElem (by rw [hx]; decide)⟩
  have g7 : DataW.trod enc Try.prog W base spare held n 3 (([c0, c1, c2, c3, c4, c5, c6, c7, c8].drop 7).take (Try.prog.cellsOf 3)) = xs[7]? := hf 7 _ rfl
  rw [e7, show Try.prog.cellsOf 3 = 1 by kernel_rfl] at g7
  obtain ⟨x7, k7', o7⟩ := (opens_int enc Try.prog W base spare held Try.underlying3) _ [c7] y7 g7 (light_part Try.prog Try.underlying23 hlt (j := 7) (by kernel_rfl) (by rw [List.getElem?_map, e7]; rfl))
  obtain ⟨y8, e8⟩ : ∃ y, xs[8]? = some y := ⟨_, List.getElem?_eq_getElem (by rw [hx]; decide)⟩
  have g8 : DataW.trod enc Try.prog W base spare held n 3 (([c0, c1, c2, c3, c4, c5, c6, c7, c8].drop 8).take (Try.prog.cellsOf 3)) = xs[8]? := hf 8 _ rfl
  rw [e8, show Try.prog.cellsOf 3 = 1 by kernel_rfl] at g8
  obtain ⟨x8, k8', o8⟩ := (opens_int enc Try.prog W base spare held Try.underlying3) _ [c8] y8 g8 (light_part Try.prog Try.underlying23 hlt (j := 8) (by kernel_rfl) (by rw [List.getElem?_map, e8]; rfl))
  obtain rfl : xs = [y0, y1, y2, y3, y4, y5, y6, y7, y8] := by
    apply List.ext_getElem?
    intro i
    have hx' : xs.length = 9 := hx
    match i with
    | 0 => exact e0
    | 1 => exact e1
    | 2 => exact e2
    | 3 => exact e3
    | 4 => exact e4
    | 5 => exact e5
    | 6 => exact e6
    | 7 => exact e7
    | 8 => exact e8
    | i + 9 => rw [List.getElem?_eq_none (by omega), List.getElem?_eq_none (by simp)]
  exact ⟨⟨x0, x1, x2, x3, x4, x5, x6, x7, x8⟩, ⟨[c0], _, rfl, k0', ⟨[c1], _, rfl, k1', ⟨[c2], _, rfl, k2', ⟨[c3], _, rfl, k3', ⟨[c4], _, rfl, k4', ⟨[c5], _, rfl, k5', ⟨[c6], _, rfl, k6', ⟨[c7], _, rfl, k7', k8'⟩⟩⟩⟩⟩⟩⟩⟩, ⟨o0, o1, o2, o3, o4, o5, o6, o7, o8⟩⟩
def ok40 (x : S40) : Prop := ((fun s => s.size ≤ 140737488351232) x.f0) ∧ ((fun x => (Lit.int .i64 x).wf = true) x.f1) ∧ ((fun x => (Lit.int .i64 x).wf = true) x.f2)
theorem cells40 : ∀ {l : List Value}, l.length = 3 → ∃ c0 c1 c2, l = [c0, c1, c2]
  | [c0, c1, c2], _ => ⟨c0, c1, c2, rfl⟩
theorem opens40 {H : Type} (enc : TypeId × Value → H) (W : World) (base : Nat) (spare : Nat → Bool) (held : Bool) : Opens enc Try.prog W base spare held 40 k40 ok40 := by
  intro fuel cs y h hlt
  obtain ⟨xs, n, rfl, rfl, hl, hx, hf⟩ := DataW.trod_struct Try.underlying40 h
  obtain ⟨c0, c1, c2, rfl⟩ := cells40 (hl.trans (by kernel_rfl))
  obtain ⟨y0, e0⟩ : ∃ y, xs[0]? = some y := ⟨_, List.getElem?_eq_getElem (by rw [hx]; decide)⟩
  have g0 : DataW.trod enc Try.prog W base spare held n 9 (([c0, c1, c2].drop 0).take (Try.prog.cellsOf 9)) = xs[0]? := hf 0 _ rfl
  rw [e0, show Try.prog.cellsOf 9 = 1 by kernel_rfl] at g0
  obtain ⟨x0, k0', o0⟩ := (opens_string enc Try.prog W base spare held Try.underlying9) _ [c0] y0 g0 (light_part Try.prog Try.underlying40 hlt (j := 0) (by kernel_rfl) (by rw [List.getElem?_map, e0]; rfl))
  obtain ⟨y1, e1⟩ : ∃ y, xs[1]? = some y := ⟨_, List.getElem?_eq_getElem (by rw [hx]; decide)⟩
  have g1 : DataW.trod enc Try.prog W base spare held n 3 (([c0, c1, c2].drop 1).take (Try.prog.cellsOf 3)) = xs[1]? := hf 1 _ rfl
  rw [e1, show Try.prog.cellsOf 3 = 1 by kernel_rfl] at g1
  obtain ⟨x1, k1', o1⟩ := (opens_int enc Try.prog W base spare held Try.underlying3) _ [c1] y1 g1 (light_part Try.prog Try.underlying40 hlt (j := 1) (by kernel_rfl) (by rw [List.getElem?_map, e1]; rfl))
  obtain ⟨y2, e2⟩ : ∃ y, xs[2]? = some y := ⟨_, List.getElem?_eq_getElem (by rw [hx]; decide)⟩
  have g2 : DataW.trod enc Try.prog W base spare held n 3 (([c0, c1, c2].drop 2).take (Try.prog.cellsOf 3)) = xs[2]? := hf 2 _ rfl
  rw [e2, show Try.prog.cellsOf 3 = 1 by kernel_rfl] at g2
  obtain ⟨x2, k2', o2⟩ := (opens_int enc Try.prog W base spare held Try.underlying3) _ [c2] y2 g2 (light_part Try.prog Try.underlying40 hlt (j := 2) (by kernel_rfl) (by rw [List.getElem?_map, e2]; rfl))
  obtain rfl : xs = [y0, y1, y2] := by
    apply List.ext_getElem?
    intro i
    have hx' : xs.length = 3 := hx
    match i with
    | 0 => exact e0
    | 1 => exact e1
    | 2 => exact e2
    | i + 3 => rw [List.getElem?_eq_none (by omega), List.getElem?_eq_none (by simp)]
  exact ⟨⟨x0, x1, x2⟩, ⟨[c0], _, rfl, k0', ⟨[c1], _, rfl, k1', k2'⟩⟩, ⟨o0, o1, o2⟩⟩
def ok53 (x : S53) : Prop := ((fun s => s.size ≤ 140737488351232) x.f0) ∧ ((fun x => (Lit.int .i64 x).wf = true) x.f1) ∧ ((fun x => (Lit.int .i64 x).wf = true) x.f2) ∧ ((fun x => (Lit.int .i64 x).wf = true) x.f3) ∧ ((fun s => s.size ≤ 140737488351232) x.f4)
theorem cells53 : ∀ {l : List Value}, l.length = 5 → ∃ c0 c1 c2 c3 c4, l = [c0, c1, c2, c3, c4]
  | [c0, c1, c2, c3, c4], _ => ⟨c0, c1, c2, c3, c4, rfl⟩
theorem opens53 {H : Type} (enc : TypeId × Value → H) (W : World) (base : Nat) (spare : Nat → Bool) (held : Bool) : Opens enc Try.prog W base spare held 53 k53 ok53 := by
  intro fuel cs y h hlt
  obtain ⟨xs, n, rfl, rfl, hl, hx, hf⟩ := DataW.trod_struct Try.underlying53 h
  obtain ⟨c0, c1, c2, c3, c4, rfl⟩ := cells53 (hl.trans (by kernel_rfl))
  obtain ⟨y0, e0⟩ : ∃ y, xs[0]? = some y := ⟨_, List.getElem?_eq_getElem (by rw [hx]; decide)⟩
  have g0 : DataW.trod enc Try.prog W base spare held n 9 (([c0, c1, c2, c3, c4].drop 0).take (Try.prog.cellsOf 9)) = xs[0]? := hf 0 _ rfl
  rw [e0, show Try.prog.cellsOf 9 = 1 by kernel_rfl] at g0
  obtain ⟨x0, k0', o0⟩ := (opens_string enc Try.prog W base spare held Try.underlying9) _ [c0] y0 g0 (light_part Try.prog Try.underlying53 hlt (j := 0) (by kernel_rfl) (by rw [List.getElem?_map, e0]; rfl))
  obtain ⟨y1, e1⟩ : ∃ y, xs[1]? = some y := ⟨_, List.getElem?_eq_getElem (by rw [hx]; decide)⟩
  have g1 : DataW.trod enc Try.prog W base spare held n 3 (([c0, c1, c2, c3, c4].drop 1).take (Try.prog.cellsOf 3)) = xs[1]? := hf 1 _ rfl
  rw [e1, show Try.prog.cellsOf 3 = 1 by kernel_rfl] at g1
  obtain ⟨x1, k1', o1⟩ := (opens_int enc Try.prog W base spare held Try.underlying3) _ [c1] y1 g1 (light_part Try.prog Try.underlying53 hlt (j := 1) (by kernel_rfl) (by rw [List.getElem?_map, e1]; rfl))
  obtain ⟨y2, e2⟩ : ∃ y, xs[2]? = some y := ⟨_, List.getElem?_eq_getElem (by rw [hx]; decide)⟩
  have g2 : DataW.trod enc Try.prog W base spare held n 3 (([c0, c1, c2, c3, c4].drop 2).take (Try.prog.cellsOf 3)) = xs[2]? := hf 2 _ rfl
  rw [e2, show Try.prog.cellsOf 3 = 1 by kernel_rfl] at g2
  obtain ⟨x2, k2', o2⟩ := (opens_int enc Try.prog W base spare held Try.underlying3) _ [c2] y2 g2 (light_part Try.prog Try.underlying53 hlt (j := 2) (by kernel_rfl) (by rw [List.getElem?_map, e2]; rfl))
  obtain ⟨y3, e3⟩ : ∃ y, xs[3]? = some y := ⟨_, List.getElem?_eq_getElem (by rw [hx]; decide)⟩
  have g3 : DataW.trod enc Try.prog W base spare held n 3 (([c0, c1, c2, c3, c4].drop 3).take (Try.prog.cellsOf 3)) = xs[3]? := hf 3 _ rfl
  rw [e3, show Try.prog.cellsOf 3 = 1 by kernel_rfl] at g3
  obtain ⟨x3, k3', o3⟩ := (opens_int enc Try.prog W base spare held Try.underlying3) _ [c3] y3 g3 (light_part Try.prog Try.underlying53 hlt (j := 3) (by kernel_rfl) (by rw [List.getElem?_map, e3]; rfl))
  obtain ⟨y4, e4⟩ : ∃ y, xs[4]? = some y := ⟨_, List.getElem?_eq_getElem (by rw [hx]; decide)⟩
  have g4 : DataW.trod enc Try.prog W base spare held n 9 (([c0, c1, c2, c3, c4].drop 4).take (Try.prog.cellsOf 9)) = xs[4]? := hf 4 _ rfl
  rw [e4, show Try.prog.cellsOf 9 = 1 by kernel_rfl] at g4
  obtain ⟨x4, k4', o4⟩ := (opens_string enc Try.prog W base spare held Try.underlying9) _ [c4] y4 g4 (light_part Try.prog Try.underlying53 hlt (j := 4) (by kernel_rfl) (by rw [List.getElem?_map, e4]; rfl))
  obtain rfl : xs = [y0, y1, y2, y3, y4] := by
    apply List.ext_getElem?
    intro i
    have hx' : xs.length = 5 := hx
    match i with
    | 0 => exact e0
    | 1 => exact e1
    | 2 => exact e2
    | 3 => exact e3
    | 4 => exact e4
    | i + 5 => rw [List.getElem?_eq_none (by omega), List.getElem?_eq_none (by simp)]
  exact ⟨⟨x0, x1, x2, x3, x4⟩, ⟨[c0], _, rfl, k0', ⟨[c1], _, rfl, k1', ⟨[c2], _, rfl, k2', ⟨[c3], _, rfl, k3', k4'⟩⟩⟩⟩, ⟨o0, o1, o2, o3, o4⟩⟩
structure S27 where
  f0 : S23
  f1 : List (S40)
  f2 : List (S53)
  f3 : List (S53)
  f4 : List (S53)
def k27 : Kd S27 := Kd.iso (Kd.pair k23 (Kd.pair (Kd.slice 40 k40) (Kd.pair (Kd.slice 53 k53) (Kd.pair (Kd.slice 53 k53) (Kd.slice 53 k53))))) (fun x : S27 => (x.f0, x.f1, x.f2, x.f3, x.f4))
def ok27 (x : S27) : Prop := (ok23 x.f0) ∧ ((fun xs => xs.length * Try.prog.bytesOf 40 ≤ 140737488351232 ∧ ∀ x ∈ xs, ok40 x) x.f1) ∧ ((fun xs => xs.length * Try.prog.bytesOf 53 ≤ 140737488351232 ∧ ∀ x ∈ xs, ok53 x) x.f2) ∧ ((fun xs => xs.length * Try.prog.bytesOf 53 ≤ 140737488351232 ∧ ∀ x ∈ xs, ok53 x) x.f3) ∧ ((fun xs => xs.length * Try.prog.bytesOf 53 ≤ 140737488351232 ∧ ∀ x ∈ xs, ok53 x) x.f4)
theorem cells27 : ∀ {l : List Value}, l.length = 13 → ∃ c0 c1 c2 c3 c4 c5 c6 c7 c8 c9 c10 c11 c12, l = [c0, c1, c2, c3, c4, c5, c6, c7, c8, c9, c10, c11, c12]
  | [c0, c1, c2, c3, c4, c5, c6, c7, c8, c9, c10, c11, c12], _ => ⟨c0, c1, c2, c3, c4, c5, c6, c7, c8, c9, c10, c11, c12, rfl⟩
theorem opens27 {H : Type} (enc : TypeId × Value → H) (W : World) (base : Nat) (spare : Nat → Bool) (held : Bool) : Opens enc Try.prog W base spare held 27 k27 ok27 := by
  intro fuel cs y h hlt
  obtain ⟨xs, n, rfl, rfl, hl, hx, hf⟩ := DataW.trod_struct Try.underlying27 h
  obtain ⟨c0, c1, c2, c3, c4, c5, c6, c7, c8, c9, c10, c11, c12, rfl⟩ := cells27 (hl.trans (by kernel_rfl))
  obtain ⟨y0, e0⟩ : ∃ y, xs[0]? = some y := ⟨_, List.getElem?_eq_getElem (by rw [hx]; decide)⟩
  have g0 : DataW.trod enc Try.prog W base spare held n 23 (([c0, c1, c2, c3, c4, c5, c6, c7, c8, c9, c10, c11, c12].drop 0).take (Try.prog.cellsOf 23)) = xs[0]? := hf 0 _ rfl
  rw [e0, show Try.prog.cellsOf 23 = 9 by kernel_rfl] at g0
  obtain ⟨x0, k0', o0⟩ := (opens23 enc W base spare held) _ [c0, c1, c2, c3, c4, c5, c6, c7, c8] y0 g0 (light_part Try.prog Try.underlying27 hlt (j := 0) (by kernel_rfl) (by rw [List.getElem?_map, e0]; rfl))
  obtain ⟨y1, e1⟩ : ∃ y, xs[1]? = some y := ⟨_, List.getElem?_eq_getElem (by rw [hx]; decide)⟩
  have g1 : DataW.trod enc Try.prog W base spare held n 24 (([c0, c1, c2, c3, c4, c5, c6, c7, c8, c9, c10, c11, c12].drop 9).take (Try.prog.cellsOf 24)) = xs[1]? := hf 1 _ rfl
  rw [e1, show Try.prog.cellsOf 24 = 1 by kernel_rfl] at g1
  obtain ⟨x1, k1', o1⟩ := (opens_slice enc Try.prog W base spare held Try.underlying24 (by kernel_rfl) (opens40 enc W base spare held)) _ [c9] y1 g1 (light_part Try.prog Try.underlying27 hlt (j := 1) (by kernel_rfl) (by rw [List.getElem?_map, e1]; rfl))
  obtain ⟨y2, e2⟩ : ∃ y, xs[2]? = some y := ⟨_, List.getElem?_eq_getElem (by rw [hx]; decide)⟩
  have g2 : DataW.trod enc Try.prog W base spare held n 25 (([c0, c1, c2, c3, c4, c5, c6, c7, c8, c9, c10, c11, c12].drop 10).take (Try.prog.cellsOf 25)) = xs[2]? := hf 2 _ rfl
  rw [e2, show Try.prog.cellsOf 25 = 1 by kernel_rfl] at g2
  obtain ⟨x2, k2', o2⟩ := (opens_slice enc Try.prog W base spare held Try.underlying25 (by kernel_rfl) (opens53 enc W base spare held)) _ [c10] y2 g2 (light_part Try.prog Try.underlying27 hlt (j := 2) (by kernel_rfl) (by rw [List.getElem?_map, e2]; rfl))
  obtain ⟨y3, e3⟩ : ∃ y, xs[3]? = some y := ⟨_, List.getElem?_eq_getElem (by rw [hx]; decide)⟩
  have g3 : DataW.trod enc Try.prog W base spare held n 25 (([c0, c1, c2, c3, c4, c5, c6, c7, c8, c9, c10, c11, c12].drop 11).take (Try.prog.cellsOf 25)) = xs[3]? := hf 3 _ rfl
  rw [e3, show Try.prog.cellsOf 25 = 1 by kernel_rfl] at g3
  obtain ⟨x3, k3', o3⟩ := (opens_slice enc Try.prog W base spare held Try.underlying25 (by kernel_rfl) (opens53 enc W base spare held)) _ [c11] y3 g3 (light_part Try.prog Try.underlying27 hlt (j := 3) (by kernel_rfl) (by rw [List.getElem?_map, e3]; rfl))
  obtain ⟨y4, e4⟩ : ∃ y, xs[4]? = some y := ⟨_, List.getElem?_eq_getElem (by rw [hx]; decide)⟩
  have g4 : DataW.trod enc Try.prog W base spare held n 25 (([c0, c1, c2, c3, c4, c5, c6, c7, c8, c9, c10, c11, c12].drop 12).take (Try.prog.cellsOf 25)) = xs[4]? := hf 4 _ rfl
  rw [e4, show Try.prog.cellsOf 25 = 1 by kernel_rfl] at g4
  obtain ⟨x4, k4', o4⟩ := (opens_slice enc Try.prog W base spare held Try.underlying25 (by kernel_rfl) (opens53 enc W base spare held)) _ [c12] y4 g4 (light_part Try.prog Try.underlying27 hlt (j := 4) (by kernel_rfl) (by rw [List.getElem?_map, e4]; rfl))
  obtain rfl : xs = [y0, y1, y2, y3, y4] := by
    apply List.ext_getElem?
    intro i
    have hx' : xs.length = 5 := hx
    match i with
    | 0 => exact e0
    | 1 => exact e1
    | 2 => exact e2
    | 3 => exact e3
    | 4 => exact e4
    | i + 5 => rw [List.getElem?_eq_none (by omega), List.getElem?_eq_none (by simp)]
  exact ⟨⟨x0, x1, x2, x3, x4⟩, ⟨[c0, c1, c2, c3, c4, c5, c6, c7, c8], _, rfl, k0', ⟨[c9], _, rfl, k1', ⟨[c10], _, rfl, k2', ⟨[c11], _, rfl, k3', k4'⟩⟩⟩⟩, ⟨o0, o1, o2, o3, o4⟩⟩
end Go.Proofs.Ytjklgdpffmaamaa.OkzWb

namespace Go.Proofs.Ytjklgdpffmaamaa.CompS
open Go.RowKit Go.Proofs.Ytjklgdpffmaamaa.PCm Go.Proofs.YtjklgdpffmaamaaW.PrintWords Go.Proofs.Ytjklgdpffmaamaa.Pu
set_option linter.unusedVariables false
abbrev err : ByteArray × Int × Int := ((⟨#[]⟩ : ByteArray), 0, 500)
theorem f_at {s : ByteArray} {i : Nat} {r : ByteArray × Int × Int} (h : Ev (fun k => comp_Name.l0 k s (i : Int) [] (i : Int) (-1)) r) : Ev (fun k => comp_Name.f k s (i : Int)) r := Ev.neg (by omega) h
theorem l_end {s : ByteArray} {i : Int} {out : List Int} {bg bh : Int} (h : (s.size : Int) ≤ i) : Ev (fun k => comp_Name.l0 k s i out bg bh) err := by
  refine Ev.step (fun k => by rw [comp_Name.l0]) (Ev.neg (by omega) ?_)
  exact Ev.step (fun k => by rw [comp_Name.j1]) (Ev.neg (by simp) (Ev.some _ fun _ => rfl))
theorem l_go {s : ByteArray} {i : Int} {out : List Int} {bg bh b : Int} {r : ByteArray × Int × Int} (h0 : 0 ≤ i) (h : i < (s.size : Int)) (ho : out.length < 255) (hb : bt s i = b) (hz : b ≠ 0)
    (h1 : b ≤ 63 → Ev (fun k => comp_Name.j2 k s i out bg bh b (decide (b < wrap64 ((s.size : Int) - i)))) r) (h2 : 63 < b → Ev (fun k => comp_Name.j2 k s i out bg bh b false) r) : Ev (fun k => comp_Name.l0 k s i out bg bh) r := by
  have hr := bt_range s i
  rw [hb] at hr
  refine Ev.step (fun k => by rw [comp_Name.l0]) (Ev.pos h ?_)
  rw [decide_eq_true (show (out.length : Int) < 255 by omega)]
  refine Ev.step (fun k => by rw [comp_Name.j1]) (Ev.pos rfl (Ev.pos h0 (Ev.pos h ?_)))
  rw [hb, w64 (x := b) (by omega) (by omega)]
  refine Ev.neg hz ?_
  by_cases hc : b ≤ 63
  · exact Ev.pos hc (h1 hc)
  · exact Ev.neg hc (h2 (by omega))
theorem l_lab {s : ByteArray} {i : Int} {out : List Int} {bg bh b : Int} {r : ByteArray × Int × Int} (hs : s.size ≤ 1000000) (h0 : 0 ≤ i) (ho : out.length < 255) (hb : bt s i = b) (hz : b ≠ 0) (h63 : b ≤ 63) (hf : b < (s.size : Int) - i)
    (h : Ev (fun k => comp_Name.l0 k s (i + 1 + b) (out ++ bytesOf (s.extract i.toNat (i + 1 + b).toNat)) bg bh) r) : Ev (fun k => comp_Name.l0 k s i out bg bh) r := by
  have hr := bt_range s i
  rw [hb] at hr
  refine l_go h0 (by omega) ho hb hz (fun _ => ?_) (fun h => by omega)
  rw [w64 (x := (s.size : Int) - i) (by omega) (by omega), decide_eq_true hf]
  refine Ev.step (fun k => by rw [comp_Name.j2]) (Ev.pos rfl ?_)
  rw [w64 (x := i + 1) (by omega) (by omega), w64 (x := i + 1 + b) (by omega) (by omega), w64 (x := 1 + b) (by omega) (by omega), w64 (x := i + (1 + b)) (by omega) (by omega), show i + (1 + b) = i + 1 + b by omega]
  refine Ev.pos (by omega) (Ev.pos (by omega) (Ev.pos (by omega) (Ev.pos ?_ h)))
  rw [ByteArray.size_extract]; omega
theorem l_bad {s : ByteArray} {i : Int} {out : List Int} {bg bh b : Int} (hs : s.size ≤ 1000000) (h0 : 0 ≤ i) (h : i < (s.size : Int)) (ho : out.length < 255) (hb : bt s i = b) (h64 : 64 ≤ b) (hn : b < 192 ∨ (s.size : Int) ≤ i + 1) : Ev (fun k => comp_Name.l0 k s i out bg bh) err := by
  refine l_go h0 h ho hb (by omega) (fun h => by omega) (fun _ => ?_)
  refine Ev.step (fun k => by rw [comp_Name.j2]) (Ev.neg (by simp) ?_)
  by_cases hc : b ≥ 192
  · refine Ev.pos hc ?_
    rw [w64 (x := i + 1) (by omega) (by omega), decide_eq_false (show ¬ i + 1 < (s.size : Int) by omega)]
    exact Ev.step (fun k => by rw [comp_Name.j3]) (Ev.neg (by simp) (Ev.some _ fun _ => rfl))
  · exact Ev.neg hc (Ev.step (fun k => by rw [comp_Name.j3]) (Ev.neg (by simp) (Ev.some _ fun _ => rfl)))
/-- Where a pointer leads. -/
theorem to_eq {b c : Int} (hb : 192 ≤ b) (hb2 : b ≤ 255) (hc : 0 ≤ c) (hc2 : c ≤ 255) : Go.bits .or .i64 (wrap64 ((Go.bits .and .i64 b 63) * 256)) (wrap64 c) = (b - 192) * 256 + c := by
  rw [and_63, w64 (x := c) (by omega) (by omega), show b % 64 = b - 192 by omega, w64 (by omega) (by omega), or_shl8 _ _ (by omega) (by omega) hc hc2]
theorem l_ptr {s : ByteArray} {i : Int} {out : List Int} {bg bh b c : Int} (hs : s.size ≤ 1000000) (h0 : 0 ≤ i) (h : i + 1 < (s.size : Int)) (ho : out.length < 255) (hb : bt s i = b) (h192 : 192 ≤ b) (hc : bt s (i + 1) = c) (hto : bg ≤ (b - 192) * 256 + c) :
    Ev (fun k => comp_Name.l0 k s i out bg bh) err := by
  have r1 := bt_range s i
  have r2 := bt_range s (i + 1)
  rw [hb] at r1
  rw [hc] at r2
  refine l_go h0 (by omega) ho hb (by omega) (fun h => by omega) (fun _ => ?_)
  refine Ev.step (fun k => by rw [comp_Name.j2]) (Ev.neg (by simp) (Ev.pos h192 ?_))
  rw [w64 (x := i + 1) (by omega) (by omega), decide_eq_true h]
  refine Ev.step (fun k => by rw [comp_Name.j3]) (Ev.pos rfl ?_)
  rw [w64 (x := i + 1) (by omega) (by omega)]
  refine Ev.pos (by omega) (Ev.pos h (Ev.pos ?_ (Ev.some _ fun _ => rfl)))
  rw [hc, to_eq h192 r1.2 r2.1 r2.2]
  exact hto
end Go.Proofs.Ytjklgdpffmaamaa.CompS

namespace Go.Proofs.Ytjklgdpffmaamaa.Wr
open Go.RowKit Go.PlainAid Go.Proofs.Ytjklgdpffmaamaa.Base Go.Proofs.Ytjklgdpffmaamaa.Oct Go.Proofs.Ytjklgdpffmaamaa.Nm
set_option linter.unusedVariables false
/-! ### Bytes -/
theorem ext_list (s : ByteArray) (i j : Nat) : (s.extract i j).data.toList = (s.data.toList.take j).drop i := by
  rw [ByteArray.data_extract, Array.toList_extract, List.extract_eq_take_drop, List.drop_take]
theorem ext_of {a b : ByteArray} (h : a.data.toList = b.data.toList) : a = b := ByteArray.ext (Array.ext' h)
theorem app_list (a b : ByteArray) : (a ++ b).data.toList = a.data.toList ++ b.data.toList := by rw [ByteArray.data_append, Array.toList_append]
theorem ext_join (s : ByteArray) (i j k : Nat) (h1 : i ≤ j) (h2 : j ≤ k) : s.extract i j ++ s.extract j k = s.extract i k := by
  apply ext_of
  rw [app_list, ext_list, ext_list, ext_list]
  generalize s.data.toList = l
  rw [← List.take_append_drop (j - i) ((l.take k).drop i), List.drop_drop, List.take_drop, List.take_take, show min (i + (j - i)) k = j by omega, show i + (j - i) = j by omega]
theorem ext_left (a b : ByteArray) (i j : Nat) (h : j ≤ a.size) : (a ++ b).extract i j = a.extract i j := by
  apply ext_of
  rw [ext_list, ext_list, app_list, List.take_append_of_le_length (by rw [len_data]; exact h)]
theorem ext_right (a b : ByteArray) (k : Nat) : (a ++ b).extract a.size (a.size + k) = b.extract 0 k := by
  apply ext_of
  rw [ext_list, ext_list, app_list]
  rw [List.take_append, len_data, List.drop_append, List.length_take, len_data, List.drop_eq_nil_of_le (by rw [List.length_take, len_data]; omega), show min (a.size + k) a.size = a.size by omega, show a.size - a.size = 0 by omega, show a.size + k - a.size = k by omega]
  simp
theorem ext_root {s : ByteArray} {p : Nat} (h : p + 1 = s.size) (h0 : bt s p = 0) : s.extract p s.size = root := by
  have hb := bt_data s p
  rw [h0] at hb
  have hl := len_data s
  apply ext_of
  rw [ext_list, ← h, List.take_of_length_le (by omega), List.drop_eq_getElem_cons (by omega), List.drop_eq_nil_of_le (by omega)]
  rw [List.getD_eq_getElem?_getD, List.getElem?_eq_getElem (by omega)] at hb
  have : (s.data.toList[p]'(by omega)).toNat = 0 := by simpa using hb.symm
  have : s.data.toList[p]'(by omega) = 0 := UInt8.toNat_inj.1 this
  rw [this]
/-! ### Names that lie in bytes -/
inductive Lies (S : ByteArray) : Nat → ByteArray → Nat → Nat → Prop
  | fin (bg i : Nat) (h : i < S.size) (h0 : bt S i = 0) : Lies S bg root i (i + 1)
  | lab (bg i k : Nat) (r : ByteArray) (nx : Nat) (hb : bt S i = (k : Int)) (h0 : 1 ≤ k) (h1 : k ≤ 63) (h : i + 1 + k ≤ S.size) (ih : Lies S bg r (i + 1 + k) nx) : Lies S bg (S.extract i (i + 1 + k) ++ r) i nx
  | ptr (bg i b c tg : Nat) (r : ByteArray) (nx : Nat) (hb : bt S i = (b : Int)) (hc : bt S (i + 1) = (c : Int)) (h0 : 192 ≤ b) (ht : tg = (b - 192) * 256 + c) (hlt : tg < bg) (h : i + 1 < S.size) (ih : Lies S tg r tg nx) : Lies S bg r i (i + 2)
theorem Lies.more {S : ByteArray} (T : ByteArray) {bg : Nat} {r : ByteArray} {i nx : Nat} (h : Lies S bg r i nx) : Lies (S ++ T) bg r i nx := by
  have z : (S ++ T).size = S.size + T.size := ByteArray.size_append
  induction h with
  | fin bg i h h0 => exact .fin bg i (by omega) (by rw [bt_append_left _ _ _ h]; exact h0)
  | lab bg i k r nx hb h0 h1 h _ ih =>
    have := Lies.lab (S := S ++ T) bg i k r nx (by rw [bt_append_left _ _ _ (by omega)]; exact hb) h0 h1 (by omega) ih
    rwa [ext_left _ _ _ _ h] at this
  | ptr bg i b c tg r nx hb hc h0 ht hlt h _ ih =>
    exact .ptr bg i b c tg r nx (by rw [bt_append_left _ _ _ (by omega)]; exact hb) (by rw [bt_append_left _ _ _ (by omega)]; exact hc) h0 ht hlt (by omega) ih
theorem Lies.wide {S : ByteArray} {bg bg' : Nat} {r : ByteArray} {i nx : Nat} (h : Lies S bg r i nx) (hb : bg ≤ bg') : Lies S bg' r i nx := by
  induction h generalizing bg' with
  | fin bg i h h0 => exact .fin bg' i h h0
  | lab bg i k r nx hb' h0 h1 h _ ih => exact .lab bg' i k r nx hb' h0 h1 h (ih hb)
  | ptr bg i b c tg r nx hb' hc h0 ht hlt h ih _ => exact .ptr bg' i b c tg r nx hb' hc h0 ht (by omega) h ih
theorem Lies.lt {S : ByteArray} {bg : Nat} {r : ByteArray} {i nx : Nat} (h : Lies S bg r i nx) : i < S.size := by
  cases h <;> omega
theorem Lies.pos {S : ByteArray} {bg : Nat} {r : ByteArray} {i nx : Nat} (h : Lies S bg r i nx) : 1 ≤ r.size := by
  induction h with
  | fin => decide
  | lab bg i k r nx _ _ _ _ _ ih => rw [ByteArray.size_append]; omega
  | ptr _ _ _ _ _ _ _ _ _ _ _ _ _ _ ih => exact ih
/-! ### What lies is read -/
section
open Go.Proofs.Ytjklgdpffmaamaa.PCm Go.Proofs.Ytjklgdpffmaamaa.CompS Go.Proofs.Ytjklgdpffmaamaa.Pu
open Go.Proofs.YtjklgdpffmaamaaW.PrintWords (bytesOf bytesOf_length Ev)
theorem bt_is (s : ByteArray) (i : Nat) : Go.Proofs.YtjklgdpffmaamaaW.PrintWords.bt s (i : Int) = bt s i := by
  rw [bt_bytes, bt_data, List.getD_eq_getElem?_getD, List.getD_eq_getElem?_getD, bytesOf, List.getElem?_map]
  cases s.data.toList[i]? <;> rfl
theorem Lies.read {S : ByteArray} (hS : S.size ≤ 1000000) {bg : Nat} {r : ByteArray} {i nx : Nat} (h : Lies S bg r i nx) : ∀ (out : List Int) (bh : Int), out.length + r.size ≤ 255 →
    Ev (fun k => comp_Name.l0 k S (i : Int) out (bg : Int) bh) (strOfNums (out ++ bytesOf r), (if bh < 0 then (nx : Int) else bh), 0) := by
  induction h with
  | fin bg i h h0 =>
    intro out bh ho
    have z : root.size = 1 := rfl
    have hb := bt_is S i
    rw [h0] at hb
    refine Ev.step (fun k => by rw [comp_Name.l0]) (Ev.pos (by omega) ?_)
    rw [decide_eq_true (show (out.length : Int) < 255 by omega)]
    refine Ev.step (fun k => by rw [comp_Name.j1]) (Ev.pos rfl (Ev.pos (by omega) (Ev.pos (by omega) ?_)))
    rw [hb]
    refine Ev.pos (Pu.w64 (by decide) (by decide)) ?_
    rw [show bytesOf root = [0] by decide +kernel]
    by_cases hbh : bh < 0
    · refine Ev.pos hbh (Ev.pos (by omega) ?_)
      rw [if_pos hbh, Pu.w64 (x := (i : Int) + 1) (by omega) (by omega)]
      exact Ev.some _ fun _ => rfl
    · refine Ev.neg hbh (Ev.pos (by omega) ?_)
      rw [if_neg hbh]
      exact Ev.some _ fun _ => rfl
  | lab bg i k r nx hb h0 h1 h hr ih =>
    intro out bh ho
    have z : (S.extract i (i + 1 + k)).size = k + 1 := by rw [ByteArray.size_extract]; omega
    rw [ByteArray.size_append, z] at ho
    have hp := hr.pos
    refine l_lab (b := (k : Int)) hS (by omega) (by omega) ((bt_is S i).trans hb) (by omega) (by omega) (by omega) ?_
    have e : ((i : Int) + 1 + (k : Int)) = ((i + 1 + k : Nat) : Int) := by omega
    rw [e]
    have := ih (out ++ bytesOf (S.extract i (i + 1 + k))) bh (by rw [List.length_append, bytesOf_length, z]; omega)
    rw [bytesOf_append, ← List.append_assoc]
    exact this
  | ptr bg i b c tg r nx hb hc h0 ht hlt h hr ih =>
    intro out bh ho
    have hp := hr.pos
    have hb' := (bt_is S i).trans hb
    have hc' := (bt_is S (i + 1)).trans hc
    have r1 := Go.Proofs.YtjklgdpffmaamaaW.PrintWords.bt_range S (i : Int)
    have r2 := Go.Proofs.YtjklgdpffmaamaaW.PrintWords.bt_range S ((i : Int) + 1)
    have e1 : ((i + 1 : Nat) : Int) = (i : Int) + 1 := by omega
    rw [e1] at hc'
    rw [hb'] at r1
    rw [hc'] at r2
    have hto : Go.bits .or .i64 (wrap64 ((Go.bits .and .i64 (b : Int) 63) * 256)) (wrap64 (c : Int)) = (tg : Int) := by
      rw [to_eq (by omega) r1.2 r2.1 r2.2, ht]; omega
    refine l_go (b := (b : Int)) (by omega) (by omega) (by omega) hb' (by omega) (fun h => by omega) (fun _ => ?_)
    refine Ev.step (fun k => by rw [comp_Name.j2]) (Ev.neg (by simp) (Ev.pos (by omega) ?_))
    rw [Pu.w64 (x := (i : Int) + 1) (by omega) (by omega), decide_eq_true (show (i : Int) + 1 < (S.size : Int) by omega)]
    refine Ev.step (fun k => by rw [comp_Name.j3]) (Ev.pos rfl ?_)
    rw [Pu.w64 (x := (i : Int) + 1) (by omega) (by omega)]
    refine Ev.pos (by omega) (Ev.pos (by omega) (Ev.neg ?_ ?_))
    · rw [hc', hto]; omega
    · rw [hc', hto]
      by_cases hbh : bh < 0
      · refine Ev.pos hbh ?_
        rw [if_pos hbh, Pu.w64 (x := (i : Int) + 2) (by omega) (by omega)]
        have := ih out ((i : Int) + 2) ho
        rw [if_neg (by omega)] at this
        exact this
      · refine Ev.neg hbh ?_
        rw [if_neg hbh]
        have := ih out bh ho
        rw [if_neg hbh] at this
        exact this
theorem Lies.name {S : ByteArray} (hS : S.size ≤ 1000000) {r : ByteArray} {i nx : Nat} (h : Lies S i r i nx) (hr : r.size ≤ 255) : Ev (fun k => comp_Name.f k S (i : Int)) (r, (nx : Int), 0) := by
  have := h.read hS [] (-1) (by simpa using hr)
  rw [List.nil_append, nums_bytesOf, if_pos (by decide)] at this
  exact f_at this
end
/-! ### What a writer puts behind lies -/
/-- All that is kept lies where it is said to. -/
def Known (S : ByteArray) (m : ByteArray → Option Int) : Prop := ∀ r t, m r = some t → ∃ i nx : Nat, t = (i : Int) ∧ i < 16384 ∧ Lies S i r i nx
/-- The rest of what is put behind, from a place on. -/
def tailN (s : ByteArray) (p : Nat) : Option (Nat × Nat × Int) → ByteArray
  | some (_, q, t) => s.extract p q ++ p16 (Go.bits .or .i64 49152 t)
  | none => s.extract p s.size
def wroteF (i n : Nat) : Option (Nat × Nat × Int) → Nat
  | some (j, _, _) => j - i
  | none => n
theorem p16_ptr (t : Nat) (ht : t < 16384) : bt (p16 (Go.bits .or .i64 49152 (t : Int))) 0 = ((192 + t / 256 : Nat) : Int) ∧ bt (p16 (Go.bits .or .i64 49152 (t : Int))) 1 = ((t % 256 : Nat) : Int) := by
  have e : Go.bits .or .i64 49152 (t : Int) = 49152 + (t : Int) := by
    have := Pu.or_shl 14 (by decide) 3 (t : Int) (by decide) (by omega) (by omega) (by omega)
    simpa using this
  rw [e]
  unfold p16
  constructor
  · rw [bt_nums _ 0 ((49152 + (t : Int)) / 256 % 256) (by rfl) (by omega) (by omega)]; omega
  · rw [bt_nums _ 1 ((49152 + (t : Int)) % 256) (by rfl) (by omega) (by omega)]; omega
theorem find_ge (m : ByteArray → Option Int) (s : ByteArray) : ∀ (ps : List Nat) (i j p : Nat) (t : Int), findP m s ps i = some (j, p, t) → i ≤ j ∧ m (s.extract p s.size) = some t := by
  intro ps
  induction ps with
  | nil => intro i j p t h; cases h
  | cons a ps ih =>
    intro i j p t h
    rw [findP] at h
    cases hm : m (s.extract a s.size) with
    | none => rw [hm] at h; have := ih _ _ _ _ h; exact ⟨by omega, this.2⟩
    | some u =>
      rw [hm] at h
      injection h with h
      injection h with h1 h
      injection h with h2 h3
      subst h2; subst h3
      exact ⟨by omega, hm⟩
theorem placesAt_ge (s : ByteArray) : ∀ n i, s.size - i ≤ n → ∀ p ∈ placesAt s i, i ≤ p := by
  intro n
  induction n with
  | zero => intro i h p hp; rw [placesAt, if_neg (by omega)] at hp; cases hp
  | succ n ih =>
    intro i h p hp
    rw [placesAt] at hp
    by_cases hi : i < s.size
    · rw [if_pos hi] at hp
      rcases List.mem_cons.1 hp with rfl | hp
      · exact Nat.le_refl _
      · by_cases h0 : PlainAid.bt s i = 0
        · rw [if_pos h0] at hp; cases hp
        · rw [if_neg h0] at hp
          by_cases h1 : 63 < PlainAid.bt s i
          · rw [if_pos h1] at hp; cases hp
          · rw [if_neg h1] at hp
            have := ih (i + 1 + (PlainAid.bt s i).toNat) (by omega) p hp
            omega
    · rw [if_neg hi] at hp; cases hp
theorem put_lies {S s : ByteArray} {m : ByteArray → Option Int} (hm : Known S m) (bg : Nat) (hbg : S.size ≤ bg) : ∀ (n p i : Nat), s.size - p ≤ n → nameAt s p = true → ∀ T : ByteArray, (∃ U, T = S ++ U) →
    (tailN s p (findP m s (placesAt s p).dropLast i)).size + p ≤ s.size ∧
    Lies (T ++ tailN s p (findP m s (placesAt s p).dropLast i)) bg (s.extract p s.size) T.size (T ++ tailN s p (findP m s (placesAt s p).dropLast i)).size ∧
    ∀ q ∈ (placesAt s p).dropLast.take (wroteF i (placesAt s p).dropLast.length (findP m s (placesAt s p).dropLast i)), Lies (T ++ tailN s p (findP m s (placesAt s p).dropLast i)) bg (s.extract q s.size) (T.size + (q - p)) (T ++ tailN s p (findP m s (placesAt s p).dropLast i)).size := by
  intro n
  induction n with
  | zero => intro p i h hn; rw [nameAt_out (by omega)] at hn; cases hn
  | succ n ih =>
    intro p i h hn T hT
    have hp : p < s.size := by
      by_cases h : p < s.size
      · exact h
      · rw [nameAt_out (by omega)] at hn; cases hn
    by_cases h0 : bt s p = 0
    · rw [nameAt_end hp h0] at hn
      have he : p + 1 = s.size := by simpa using hn
      have er := ext_root he h0
      rw [placesAt_end hp h0]
      show (s.extract p s.size).size + p ≤ s.size ∧ Lies (T ++ s.extract p s.size) bg (s.extract p s.size) T.size (T ++ s.extract p s.size).size ∧ _
      rw [er]
      have z : (T ++ root).size = T.size + 1 := by rw [ByteArray.size_append]; rfl
      refine ⟨by show 1 + p ≤ s.size; omega, ?_, fun q hq => by simp at hq⟩
      rw [z]
      exact .fin bg T.size (by omega) (by rw [bt_append_right _ _ _ (by omega), Nat.sub_self]; exact root_bt)
    · have h63 : bt s p ≤ 63 := by
        by_cases h1 : 63 < bt s p
        · rw [nameAt_bad hp h1] at hn; cases hn
        · omega
      rw [nameAt_next hp h0 h63] at hn
      obtain ⟨k, hk⟩ : ∃ k : Nat, bt s p = (k : Int) := ⟨(bt s p).toNat, by have := bt_nonneg s p; omega⟩
      have hk0 : 1 ≤ k := by omega
      rw [hk, Int.toNat_natCast] at hn
      have hq : p + 1 + k < s.size := by
        by_cases h : p + 1 + k < s.size
        · exact h
        · rw [nameAt_out (by omega)] at hn; cases hn
      have hd : (placesAt s p).dropLast = p :: (placesAt s (p + 1 + k)).dropLast := by
        rw [placesAt_next hp h0 h63, hk, Int.toNat_natCast, List.dropLast_cons_of_ne_nil (places_ne _ _ hn)]
      rw [hd]
      cases hmp : m (s.extract p s.size) with
      | some t =>
        obtain ⟨tg, nx, rfl, hto, hl⟩ := hm _ _ hmp
        have ef : findP m s (p :: (placesAt s (p + 1 + k)).dropLast) i = some (i, p, (tg : Int)) := by rw [findP, hmp]
        rw [ef]
        obtain ⟨U, rfl⟩ := hT
        have e : tailN s p (some (i, p, (tg : Int))) = p16 (Go.bits .or .i64 49152 (tg : Int)) := by
          show s.extract p p ++ _ = _
          simp
        rw [e]
        have z : (S ++ U ++ p16 (Go.bits .or .i64 49152 (tg : Int))).size = (S ++ U).size + 2 := by rw [ByteArray.size_append, p16_size]
        have zS : S.size ≤ (S ++ U).size := by rw [ByteArray.size_append]; omega
        have hpt := p16_ptr tg hto
        refine ⟨by rw [p16_size]; omega, ?_, fun q hq => by simp [wroteF] at hq⟩
        rw [z]
        refine .ptr bg (S ++ U).size (192 + tg / 256) (tg % 256) tg _ nx ?_ ?_ (by omega) (by omega) (by have := hl.lt; omega) (by omega) ?_
        · rw [bt_append_right _ _ _ (by omega), Nat.sub_self]; exact hpt.1
        · rw [bt_append_right _ _ _ (by omega), Nat.add_sub_cancel_left]; exact hpt.2
        · rw [ByteArray.append_assoc]; exact hl.more _
      | none =>
        have ef : findP m s (p :: (placesAt s (p + 1 + k)).dropLast) i = findP m s (placesAt s (p + 1 + k)).dropLast (i + 1) := by rw [findP, hmp]
        rw [ef]
        have IH := ih (p + 1 + k) (i + 1) (by omega) hn (T ++ s.extract p (p + 1 + k)) (by obtain ⟨U, rfl⟩ := hT; exact ⟨U ++ s.extract p (p + 1 + k), by rw [ByteArray.append_assoc]⟩)
        have hge : ∀ j q t, findP m s (placesAt s (p + 1 + k)).dropLast (i + 1) = some (j, q, t) → p + 1 + k ≤ q ∧ i + 1 ≤ j := fun j q t hf =>
          ⟨placesAt_ge s _ _ (Nat.le_refl _) q (List.dropLast_subset _ ((find_le m s _ _ _ _ _ hf).2)), (find_ge m s _ _ _ _ _ hf).1⟩
        generalize findP m s (placesAt s (p + 1 + k)).dropLast (i + 1) = f at IH hge ⊢
        have ze : (s.extract p (p + 1 + k)).size = 1 + k := by rw [ByteArray.size_extract]; omega
        have et : tailN s p f = s.extract p (p + 1 + k) ++ tailN s (p + 1 + k) f := by
          match f, hge with
          | none, _ => exact (ext_join s p (p + 1 + k) s.size (by omega) (by omega)).symm
          | some (j, q, t), hge =>
            show s.extract p q ++ _ = s.extract p (p + 1 + k) ++ (s.extract (p + 1 + k) q ++ _)
            rw [← ByteArray.append_assoc, ext_join s p (p + 1 + k) q (by omega) (hge j q t rfl).1]
        rw [et, ← ByteArray.append_assoc]
        have zT : (T ++ s.extract p (p + 1 + k)).size = T.size + 1 + k := by rw [ByteArray.size_append, ze]; omega
        obtain ⟨i1, i2, i3⟩ := IH
        rw [zT] at i2 i3
        have L : Lies (T ++ s.extract p (p + 1 + k) ++ tailN s (p + 1 + k) f) bg (s.extract p s.size) T.size (T ++ s.extract p (p + 1 + k) ++ tailN s (p + 1 + k) f).size := by
          have b0 : bt (T ++ s.extract p (p + 1 + k) ++ tailN s (p + 1 + k) f) T.size = (k : Int) := by
            rw [ByteArray.append_assoc, bt_append_right _ _ _ (by omega), Nat.sub_self, bt_append_left _ _ _ (by omega)]
            have : bt (s.extract p (p + 1 + k)) 0 = bt s p := by
              rw [bt_data, bt_data, ext_list, List.getD_eq_getElem?_getD, List.getD_eq_getElem?_getD, List.getElem?_drop, List.getElem?_take_of_lt (by omega), Nat.add_zero]
            rw [this, hk]
          have := Lies.lab bg T.size k (s.extract (p + 1 + k) s.size) _ b0 hk0 (by omega) (by rw [ByteArray.size_append, zT]; omega) i2
          rw [ByteArray.append_assoc, show T.size + 1 + k = T.size + (1 + k) by omega, ext_right T _ (1 + k), ext_left _ _ _ _ (by omega)] at this
          rw [show (s.extract p (p + 1 + k)).extract 0 (1 + k) = s.extract p (p + 1 + k) by have := ext0 (s.extract p (p + 1 + k)); rwa [ze] at this, ext_join s p (p + 1 + k) s.size (by omega) (by omega), ← ByteArray.append_assoc] at this
          exact this
        refine ⟨by rw [ByteArray.size_append, ze]; omega, L, fun q hq => ?_⟩
        have hw : wroteF i (p :: (placesAt s (p + 1 + k)).dropLast).length f = wroteF (i + 1) (placesAt s (p + 1 + k)).dropLast.length f + 1 := by
          match f, hge with
          | none, _ => rfl
          | some (j, q, t), hge => have := (hge j q t rfl).2; show j - i = j - (i + 1) + 1; omega
        rw [hw, List.take_succ_cons] at hq
        rcases List.mem_cons.1 hq with rfl | hq
        · rw [Nat.sub_self, Nat.add_zero]; exact L
        · have h3 := i3 q hq
          have := placesAt_ge s _ _ (Nat.le_refl _) q (List.dropLast_subset _ (List.mem_of_mem_take hq))
          rw [show T.size + (q - p) = T.size + 1 + k + (q - (p + 1 + k)) by omega]
          exact h3
theorem putK_inv (s x : ByteArray) (at0 : Nat) (t : Int) : ∀ (ps : List Nat) (m : ByteArray → Option Int), putK m s at0 ps x = some t → m x = some t ∨ ∃ p ∈ ps, x = s.extract p s.size ∧ t = (at0 : Int) + p := by
  intro ps
  induction ps with
  | nil => intro m h; exact .inl h
  | cons p ps ih =>
    intro m h
    rcases ih _ h with h | ⟨q, hq, h⟩
    · replace h : (if x = s.extract p s.size then some ((at0 : Int) + p) else m x) = some t := h
      by_cases e : x = s.extract p s.size
      · rw [if_pos e] at h
        injection h with h
        exact .inr ⟨p, List.mem_cons_self .., e, h.symm⟩
      · rw [if_neg e] at h; exact .inl h
    · exact .inr ⟨q, List.mem_cons_of_mem _ hq, h⟩
/-- Behind a name that was put: it lies where the bytes ended, all that is kept lies; it is no longer than it is. -/
theorem put_known {S s : ByteArray} {m : ByteArray → Option Int} (hm : Known S m) (hs : nameB s = true) (hz : S.size + s.size < 16384) :
    (outN m s).size ≤ s.size ∧ Lies (S ++ outN m s) S.size s S.size (S ++ outN m s).size ∧ Known (S ++ outN m s) (putN m s S.size) := by
  obtain ⟨h1, h2, h3⟩ := name_first hs
  have eo : outN m s = tailN s 0 (findP m s (placesAt s 0).dropLast 0) := by
    unfold outN heads places
    cases findP m s (placesAt s 0).dropLast 0 with
    | none => show s = s.extract 0 s.size; rw [ext0]
    | some r => obtain ⟨i, p, t⟩ := r; rfl
  have ew : wroteN m s = wroteF 0 (placesAt s 0).dropLast.length (findP m s (placesAt s 0).dropLast 0) := by
    unfold wroteN heads places
    cases findP m s (placesAt s 0).dropLast 0 with
    | none => rfl
    | some r => obtain ⟨i, p, t⟩ := r; rfl
  have H := put_lies hm S.size (Nat.le_refl _) s.size 0 0 (by omega) h3 S ⟨⟨#[]⟩, by apply ext_of; rw [app_list]; simp⟩
  rw [← eo, ← ew, ext0] at H
  refine ⟨by have := H.1; omega, H.2.1, fun r t hr => ?_⟩
  rcases putK_inv s r S.size t _ _ hr with hr | ⟨p, hp, rfl, rfl⟩
  · obtain ⟨i, nx, e, hi, hl⟩ := hm r t hr
    exact ⟨i, nx, e, hi, hl.more _⟩
  · have hl := H.2.2 p hp
    have hps := placesAt_mem s _ 0 (Nat.le_refl _) p (List.dropLast_subset _ (List.mem_of_mem_take hp))
    rw [Nat.sub_zero] at hl
    exact ⟨S.size + p, _, by omega, by omega, hl.wide (by omega)⟩
end Go.Proofs.Ytjklgdpffmaamaa.Wr

namespace Go.Proofs.Ytjklgdpffmaamaa.Hd
open Go.RowKit Go.PlainAid Go.Proofs.Ytjklgdpffmaamaa.Base Go.Proofs.Ytjklgdpffmaamaa.Oct
set_option linter.unusedVariables false

def bi (b : Bool) : Int := bif b then 1 else 0
theorem bi_bd (b : Bool) : 0 ≤ bi b ∧ bi b ≤ 1 := by cases b <;> decide
theorem bi_inj (b : Bool) : (bi b == 1) = b := by cases b <;> rfl
theorem bw15 (b : Bool) : bitW b 15 = 32768 * bi b := by cases b <;> rfl
theorem bw10 (b : Bool) : bitW b 10 = 1024 * bi b := by cases b <;> rfl
theorem bw9 (b : Bool) : bitW b 9 = 512 * bi b := by cases b <;> rfl
theorem bw8 (b : Bool) : bitW b 8 = 256 * bi b := by cases b <;> rfl
theorem bw7 (b : Bool) : bitW b 7 = 128 * bi b := by cases b <;> rfl
theorem orj (i : Nat) (x y : Int) (hx : 0 ≤ x) (hm : x % 2 ^ i = 0) (hx1 : x < 9223372036854775808) (hy : 0 ≤ y) (hy1 : y < 2 ^ i) (hy2 : y < 9223372036854775808) : Go.bits .or .i64 x y = x + y :=
  bits_join .i64 63 (by decide) wraps_i64 i x y hx hm (by omega) hy hy1 (by omega)
def Head.sum (h : Head) : Int := 32768 * bi h.qr + 2048 * h.op + 1024 * bi h.aa + 512 * bi h.tc + 256 * bi h.rd + 128 * bi h.ra + 16 * h.z + h.rc
theorem flags_sum (h : Head) (a0 : 0 ≤ h.op) (a1 : h.op ≤ 15) (a2 : 0 ≤ h.z) (a3 : h.z ≤ 7) (a4 : 0 ≤ h.rc) (a5 : h.rc ≤ 15) : h.flagsN = h.sum := by
  have b0 := bi_bd h.qr; have b1 := bi_bd h.aa; have b2 := bi_bd h.tc; have b3 := bi_bd h.rd; have b4 := bi_bd h.ra
  unfold Head.flagsN Head.sum
  rw [bw15, bw10, bw9, bw8, bw7]
  rw [orj 15 (32768 * bi h.qr) (h.op * 2048) (by omega) (by omega) (by omega) (by omega) (by omega) (by omega)]
  rw [orj 11 _ (1024 * bi h.aa) (by omega) (by omega) (by omega) (by omega) (by omega) (by omega)]
  rw [orj 10 _ (512 * bi h.tc) (by omega) (by omega) (by omega) (by omega) (by omega) (by omega)]
  rw [orj 9 _ (256 * bi h.rd) (by omega) (by omega) (by omega) (by omega) (by omega) (by omega)]
  rw [orj 8 _ (128 * bi h.ra) (by omega) (by omega) (by omega) (by omega) (by omega) (by omega)]
  rw [orj 7 _ (h.z * 16) (by omega) (by omega) (by omega) (by omega) (by omega) (by omega)]
  rw [orj 4 _ h.rc (by omega) (by omega) (by omega) (by omega) (by omega) (by omega)]
  omega
theorem and15 (x : Int) : Go.bits .and .i64 x 15 = x % 16 := and_mask 4 (by decide) x
theorem and7 (x : Int) : Go.bits .and .i64 x 7 = x % 8 := and_mask 3 (by decide) x

/-! ### Bytes -/
theorem be2_left (s t : ByteArray) (i : Nat) (h : i + 2 ≤ s.size) : be2 (s ++ t) i = be2 s i := by
  unfold be2; rw [bt_append_left _ _ _ (by omega), bt_append_left _ _ _ (by omega)]
theorem be2_right (s t : ByteArray) (i : Nat) (h : s.size ≤ i) : be2 (s ++ t) i = be2 t (i - s.size) := by
  unfold be2; rw [bt_append_right _ _ _ (by omega), bt_append_right _ _ _ (by omega), show i + 1 - s.size = i - s.size + 1 by omega]
theorem be2_p16 (x : Int) (h0 : 0 ≤ x) (h1 : x ≤ 65535) : be2 (p16 x) 0 = x := by
  unfold be2 p16
  rw [bt_nums _ 0 (x / 256 % 256) rfl (by omega) (by omega), bt_nums _ 1 (x % 256) rfl (by omega) (by omega)]
  omega
theorem putS_size (h : Head) (a b c d : Int) : (h.putS a b c d).size = 12 := by
  simp [Head.putS, ByteArray.size_append, p16_size]
/-- Two bytes, then the rest. -/
theorem be2_at (s t : ByteArray) (x : Int) (i : Nat) (hs : s.size = i) (h0 : 0 ≤ x) (h1 : x ≤ 65535) : be2 (s ++ p16 x ++ t) i = x := by
  subst hs
  rw [be2_left _ _ _ (by rw [ByteArray.size_append, p16_size]; omega), be2_right _ _ _ (by omega), Nat.sub_self, be2_p16 x h0 h1]
theorem flagsW_sum (h : Head) (hk : h.ok) : h.flagsW = h.sum := by
  obtain ⟨_, k1, k2, k3⟩ := hk
  rw [flags_eq h k1.1 k1.2 k3.1 k3.2, flags_sum h k1.1 k1.2 k3.1 k3.2 k2.1 k2.2]
theorem sum_bd (h : Head) (hk : h.ok) : 0 ≤ h.sum ∧ h.sum ≤ 65535 := by
  obtain ⟨_, k1, k2, k3⟩ := hk
  have b0 := bi_bd h.qr; have b1 := bi_bd h.aa; have b2 := bi_bd h.tc; have b3 := bi_bd h.rd; have b4 := bi_bd h.ra
  unfold Head.sum; omega
theorem bitB_of (f k : Int) (p : Int) (b : Bool) (hp : bitB f k = (Go.bits .and .i64 (f / p) 1 == 1)) (h : f / p % 2 = bi b) : bitB f k = b := by
  rw [hp, and_1, h]; exact bi_inj b
theorem back (h : Head) (a b c d : Int) (t : ByteArray) (hm : mayB h a b c d = true) : gotH (h.putS a b c d ++ t) = h ∧ gotC (h.putS a b c d ++ t) 4 = a ∧ gotC (h.putS a b c d ++ t) 6 = b ∧ gotC (h.putS a b c d ++ t) 8 = c ∧ gotC (h.putS a b c d ++ t) 10 = d ∧ gotE (h.putS a b c d ++ t) = 0 := by
  obtain ⟨⟨h0, h1, h2, h3⟩, hk⟩ := of_decide_eq_true hm
  have hz : 12 ≤ (h.putS a b c d ++ t).size := by rw [ByteArray.size_append, putS_size]; omega
  have hf := flagsW_sum h hk
  have hb := sum_bd h hk
  rw [gotH_yes hz, gotC_yes hz, gotC_yes hz, gotC_yes hz, gotC_yes hz, gotE_yes hz]
  have e0 : be2 (h.putS a b c d ++ t) 0 = h.id := by
    unfold Head.putS
    rw [show p16 h.id ++ p16 h.flagsW ++ p16 a ++ p16 b ++ p16 c ++ p16 d ++ t = ByteArray.empty ++ p16 h.id ++ (p16 h.flagsW ++ p16 a ++ p16 b ++ p16 c ++ p16 d ++ t) by simp [ByteArray.append_assoc]]
    exact be2_at _ _ _ _ rfl hk.1.1 hk.1.2
  have e2 : be2 (h.putS a b c d ++ t) 2 = h.sum := by
    unfold Head.putS
    rw [show p16 h.id ++ p16 h.flagsW ++ p16 a ++ p16 b ++ p16 c ++ p16 d ++ t = p16 h.id ++ p16 h.flagsW ++ (p16 a ++ p16 b ++ p16 c ++ p16 d ++ t) by simp [ByteArray.append_assoc], hf]
    exact be2_at _ _ _ _ (p16_size _) hb.1 hb.2
  have e4 : be2 (h.putS a b c d ++ t) 4 = a := by
    unfold Head.putS
    rw [show p16 h.id ++ p16 h.flagsW ++ p16 a ++ p16 b ++ p16 c ++ p16 d ++ t = (p16 h.id ++ p16 h.flagsW) ++ p16 a ++ (p16 b ++ p16 c ++ p16 d ++ t) by simp [ByteArray.append_assoc]]
    exact be2_at _ _ _ _ (by simp [ByteArray.size_append, p16_size]) h0.1 h0.2
  have e6 : be2 (h.putS a b c d ++ t) 6 = b := by
    unfold Head.putS
    rw [show p16 h.id ++ p16 h.flagsW ++ p16 a ++ p16 b ++ p16 c ++ p16 d ++ t = (p16 h.id ++ p16 h.flagsW ++ p16 a) ++ p16 b ++ (p16 c ++ p16 d ++ t) by simp [ByteArray.append_assoc]]
    exact be2_at _ _ _ _ (by simp [ByteArray.size_append, p16_size]) h1.1 h1.2
  have e8 : be2 (h.putS a b c d ++ t) 8 = c := by
    unfold Head.putS
    rw [show p16 h.id ++ p16 h.flagsW ++ p16 a ++ p16 b ++ p16 c ++ p16 d ++ t = (p16 h.id ++ p16 h.flagsW ++ p16 a ++ p16 b) ++ p16 c ++ (p16 d ++ t) by simp [ByteArray.append_assoc]]
    exact be2_at _ _ _ _ (by simp [ByteArray.size_append, p16_size]) h2.1 h2.2
  have e10 : be2 (h.putS a b c d ++ t) 10 = d := by
    unfold Head.putS
    exact be2_at _ _ _ _ (by simp [ByteArray.size_append, p16_size]) h3.1 h3.2
  refine ⟨?_, e4, e6, e8, e10, rfl⟩
  obtain ⟨_, k1, k2, k3⟩ := hk
  have b0 := bi_bd h.qr; have b1 := bi_bd h.aa; have b2 := bi_bd h.tc; have b3 := bi_bd h.rd; have b4 := bi_bd h.ra
  unfold getH
  rw [e0, e2, and15, and15, and7]
  have s0 : h.sum = 32768 * bi h.qr + 2048 * h.op + 1024 * bi h.aa + 512 * bi h.tc + 256 * bi h.rd + 128 * bi h.ra + 16 * h.z + h.rc := rfl
  rw [bitB_of _ _ _ h.qr (bitB15 _) (by omega), bitB_of _ _ _ h.aa (bitB10 _) (by omega), bitB_of _ _ _ h.tc (bitB9 _) (by omega), bitB_of _ _ _ h.rd (bitB8 _) (by omega), bitB_of _ _ _ h.ra (bitB7 _) (by omega)]
  rw [show h.sum / 2048 % 16 = h.op by omega, show h.sum / 16 % 8 = h.z by omega, show h.sum % 16 = h.rc by omega]

/-! ### Any twelve bytes -/
theorem getH_ok (s : ByteArray) : (getH s).ok := by
  have h0 := be2_bd s 0
  unfold Head.ok getH sh
  simp only [and15, and7]
  omega
theorem getH_may (s : ByteArray) : mayB (getH s) (be2 s 4) (be2 s 6) (be2 s 8) (be2 s 10) = true :=
  decide_eq_true ⟨⟨be2_bd s 4, be2_bd s 6, be2_bd s 8, be2_bd s 10⟩, getH_ok s⟩
end Go.Proofs.Ytjklgdpffmaamaa.Hd

namespace Go.Proofs.Ytjklgdpffmaamaa.Wm
open Go.RowKit Go.PlainAid Go.Proofs.Ytjklgdpffmaamaa.Base Go.Proofs.Ytjklgdpffmaamaa.Oct Go.Proofs.Ytjklgdpffmaamaa.Nm Go.Proofs.Ytjklgdpffmaamaa.Wr Go.Proofs.Ytjklgdpffmaamaa.PCm Go.Proofs.Ytjklgdpffmaamaa.CompS Go.Proofs.Ytjklgdpffmaamaa.Pu
open Go.Proofs.YtjklgdpffmaamaaW.PrintWords (Ev bytesOf bytesOf_length LeO)
set_option linter.unusedVariables false
theorem Ev.uniq {α : Type} {g : Nat → Option α} {a b : α} (h : Ev g a) (k : Ev g b) : a = b := by
  obtain ⟨K, h⟩ := h
  obtain ⟨K', k⟩ := k
  have e := (h (max K K') (Nat.le_max_left _ _)).symm.trans (k (max K K') (Nat.le_max_right _ _))
  exact Option.some.inj e
/-! ### A name that lies uncompressed -/
theorem find_none (s : ByteArray) : ∀ (ps : List Nat) (i : Nat), findP (fun _ => none) s ps i = none
  | [], _ => rfl
  | p :: ps, i => by rw [findP]; exact find_none s ps (i + 1)
theorem outN_plain (s : ByteArray) : outN (fun _ => none) s = s := by
  unfold outN; rw [find_none]
theorem ext_cut {S d : ByteArray} {i : Nat} (h : i + d.size ≤ S.size) (he : S.extract i (i + d.size) = d) : S = S.extract 0 i ++ d ++ S.extract (i + d.size) S.size := by
  have e := ext_join S 0 i (i + d.size) (by omega) (by omega)
  have e2 := ext_join S 0 (i + d.size) S.size (by omega) h
  rw [he] at e
  rw [e, e2, ext0]
theorem lies_plain {S n : ByteArray} {i : Nat} (hn : nameB n = true) (h : i + n.size ≤ S.size) (hS : S.size ≤ 16000) (he : S.extract i (i + n.size) = n) : Lies S i n i (i + n.size) := by
  have hn2 := (name_first hn).2.1
  have z : (S.extract 0 i).size = i := by rw [ByteArray.size_extract]; omega
  have H := (put_known (S := S.extract 0 i) (s := n) (m := fun _ => none) (fun r t h => by cases h) hn (by omega)).2.1
  rw [outN_plain, ByteArray.size_append, z] at H
  have := H.more (S.extract (i + n.size) S.size)
  rw [← ext_cut h he] at this
  exact this
theorem names_1 {s nm : ByteArray} {i q : Int} (h : Ev (fun k => comp_Name.f k s i) (nm, q, 0)) (hs : nm.size ≤ 255) : Ev (fun k => comp_names.f k s i 1) (nm, q, 0) := by
  show Ev (fun k => comp_names.l0 k s i (⟨#[]⟩ : ByteArray) 1 0) _
  refine Ev.step (fun k => by rw [comp_names.l0]) (Ev.pos (by decide) (Ev.bind h ?_))
  refine Ev.pos rfl (Ev.pos (by show 0 + nm.size ≤ 9223372036854775807; omega) ?_)
  refine Ev.step (fun k => by rw [comp_names.l0]) (Ev.neg (by rw [Pu.w64 (by decide) (by decide)]; decide) (Ev.some _ fun _ => ?_))
  show some ((⟨#[]⟩ : ByteArray) ++ nm, q, (0 : Int)) = _
  rw [show (⟨#[]⟩ : ByteArray) ++ nm = nm from ByteArray.empty_append]
theorem names_2 {s nm nn : ByteArray} {i p q : Int} (h : Ev (fun k => comp_Name.f k s i) (nm, p, 0)) (h2 : Ev (fun k => comp_Name.f k s p) (nn, q, 0)) (hs : nm.size ≤ 255) (hs2 : nn.size ≤ 255) : Ev (fun k => comp_names.f k s i 2) (nm ++ nn, q, 0) := by
  show Ev (fun k => comp_names.l0 k s i (⟨#[]⟩ : ByteArray) 2 0) _
  refine Ev.step (fun k => by rw [comp_names.l0]) (Ev.pos (by decide) (Ev.bind h ?_))
  refine Ev.pos rfl (Ev.pos (by show 0 + nm.size ≤ 9223372036854775807; omega) ?_)
  have e : (⟨#[]⟩ : ByteArray) ++ nm = nm := ByteArray.empty_append
  refine Ev.step (fun k => by rw [comp_names.l0]) (Ev.pos (by rw [Pu.w64 (by decide) (by decide)]; decide) (Ev.bind h2 ?_))
  dsimp only
  rw [e]
  refine Ev.pos rfl (Ev.pos (by omega) ?_)
  exact Ev.step (fun k => by rw [comp_names.l0]) (Ev.neg (by rw [Pu.w64 (x := 0 + 1) (by decide) (by decide), Pu.w64 (by decide) (by decide)]; decide) (Ev.some _ fun _ => rfl))
/-! ### Data -/
theorem shape_0 {t : Int} (h2 : t ≠ 2) (h5 : t ≠ 5) (h12 : t ≠ 12) (h15 : t ≠ 15) (h6 : t ≠ 6) : Ev (fun k => comp_shape.f k t) (0, 0, 0) := by
  refine Ev.neg h2 (Ev.neg h5 (Ev.step (fun k => by rw [comp_shape.j0]) (Ev.neg (by simpa using h12) (Ev.neg h15 (Ev.neg h6 (Ev.now _))))))
theorem shape_1 {t : Int} (h : t = 2 ∨ t = 5 ∨ t = 12) : Ev (fun k => comp_shape.f k t) (0, 1, 0) := by
  rcases h with rfl | rfl | rfl <;> exact Ev.of (comp_shape.mono _) (k := 4) (by decide +kernel)
theorem shape_15 : Ev (fun k => comp_shape.f k 15) (2, 1, 0) := Ev.of (comp_shape.mono _) (k := 4) (by decide +kernel)
theorem shape_6 : Ev (fun k => comp_shape.f k 6) (0, 2, 20) := Ev.of (comp_shape.mono _) (k := 4) (by decide +kernel)
theorem may_eq (t : Int) (s : ByteArray) (h : s.size ≤ 9223372036854775000) : rdata_May.f t s = some (Rd.mayD t s) := by unfold rdata_May.f; rw [if_pos h]
theorem data_in {s : ByteArray} {i z t : Int} {r : ByteArray × Int} (hs : s.size ≤ 1000000) (h0 : 0 ≤ i) (h1 : 0 ≤ z) (h2 : i + z ≤ (s.size : Int)) (h : Ev (fun k => comp_Data.j0 k s i z t false) r) : Ev (fun k => comp_Data.f k s i z t) r := by
  refine Ev.neg (by omega) (Ev.neg (by omega) (Ev.neg (by omega) ?_))
  rw [Pu.w64 (x := (s.size : Int) - i) (by omega) (by omega), decide_eq_false (show ¬ z > (s.size : Int) - i by omega)]
  exact h
/-- Data of a type whose bytes are left as they are. -/
theorem data_plain {s : ByteArray} {i z : Nat} {t : Int} (hs : s.size ≤ 1000000) (h2 : i + z ≤ s.size) (hsh : Ev (fun k => comp_shape.f k t) (0, 0, 0)) (hm : Rd.mayD t (s.extract i (i + z)) = true) :
    Ev (fun k => comp_Data.f k s (i : Int) (z : Int) t) (s.extract i (i + z), 0) := by
  refine data_in hs (by omega) (by omega) (by omega) ?_
  refine Ev.step (fun k => by rw [comp_Data.j0]) (Ev.neg (by decide) ?_)
  rw [Pu.w64 (x := (i : Int) + (z : Int)) (by omega) (by omega)]
  refine Ev.pos (by omega) (Ev.pos (by omega) (Ev.pos (by omega) (Ev.bind hsh (Ev.neg (by decide) (Ev.call (may_eq _ _ ?_) ?_)))))
  · rw [ByteArray.size_extract]; omega
  rw [show ((i : Int) + (z : Int)).toNat = i + z by omega, Int.toNat_natCast, hm]
  exact Ev.pos rfl (Ev.some _ fun _ => rfl)
/-- Data with names in it. -/
theorem data_names {s ns : ByteArray} {i z a more q : Nat} {many t : Int} (hs : s.size ≤ 1000000) (hn : ns.size ≤ 600) (h2 : i + z ≤ s.size) (hsh : Ev (fun k => comp_shape.f k t) ((a : Int), many, (more : Int))) (hmn : 0 < many) (ham : a + more ≤ z)
    (hq : Ev (fun k => comp_names.f k s ((i + a : Nat) : Int) many) (ns, (q : Int), 0)) (hqz : q + more = i + z) (hm : Rd.mayD t (s.extract i (i + a) ++ ns ++ s.extract q (i + z)) = true) :
    Ev (fun k => comp_Data.f k s (i : Int) (z : Int) t) (s.extract i (i + a) ++ ns ++ s.extract q (i + z), 0) := by
  refine data_in hs (by omega) (by omega) (by omega) ?_
  refine Ev.step (fun k => by rw [comp_Data.j0]) (Ev.neg (by decide) ?_)
  rw [Pu.w64 (x := (i : Int) + (z : Int)) (by omega) (by omega)]
  refine Ev.pos (by omega) (Ev.pos (by omega) (Ev.pos (by omega) (Ev.bind hsh (Ev.pos (by show many > 0; omega) ?_))))
  dsimp only
  rw [Pu.w64 (x := (a : Int) + (more : Int)) (by omega) (by omega), Pu.w64 (x := (i : Int) + (a : Int)) (by omega) (by omega), show (i : Int) + (a : Int) = ((i + a : Nat) : Int) by omega]
  refine Ev.neg (by omega) (Ev.bind hq (Ev.pos rfl ?_))
  dsimp only
  rw [Pu.w64 (x := (i : Int) + (z : Int) - (more : Int)) (by omega) (by omega)]
  rw [show ((q : Int) != (i : Int) + (z : Int) - (more : Int)) = false by simp; omega]
  refine Ev.step (fun k => by rw [comp_Data.j1]) (Ev.neg (by decide) ?_)
  rw [Pu.w64 (x := (i : Int) + (a : Int)) (by omega) (by omega), show (i : Int) + (a : Int) = ((i + a : Nat) : Int) by omega, show (i : Int) + (z : Int) = ((i + z : Nat) : Int) by omega]
  simp only [Int.toNat_natCast]
  refine Ev.pos (by omega) (Ev.pos (by omega) (Ev.pos (by omega) (Ev.pos ?_ (Ev.pos (by omega) (Ev.pos (by omega) (Ev.pos (by omega) (Ev.pos ?_ (Ev.call (may_eq _ _ ?_) ?_))))))))
  · rw [ByteArray.size_extract]; omega
  · rw [ByteArray.size_append, ByteArray.size_extract, ByteArray.size_extract]; omega
  · rw [ByteArray.size_append, ByteArray.size_append, ByteArray.size_extract, ByteArray.size_extract]; omega
  rw [hm]
  exact Ev.pos rfl (Ev.some _ fun _ => rfl)
theorem name_plain {S n : ByteArray} {i : Nat} (hn : nameB n = true) (h : i + n.size ≤ S.size) (hS : S.size ≤ 16000) (he : S.extract i (i + n.size) = n) : Ev (fun k => comp_Name.f k S (i : Int)) (n, ((i + n.size : Nat) : Int), 0) :=
  (lies_plain hn h hS he).name (by omega) (name_first hn).2.1
theorem ext_ext (s : ByteArray) (i j a b : Nat) (h : i + b ≤ j) : (s.extract i j).extract a b = s.extract (i + a) (i + b) := by
  apply ext_of
  rw [ext_list, ext_list, ext_list]
  generalize s.data.toList = l
  rw [List.drop_take, List.drop_take, List.drop_take, List.drop_take, List.take_take, List.drop_drop, show min (b - a) (j - i - a) = i + b - (i + a) by omega]
theorem endN_name {s : ByteArray} {a : Nat} (h : 0 ≤ endN s a) : nameB (s.extract a (endN s a).toNat) = true := by
  unfold endN at h ⊢
  cases hz : zeroAt s a with
  | none => rw [hz] at h; dsimp only at h; exact absurd h (by decide)
  | some p =>
    rw [hz] at h
    dsimp only at h ⊢
    by_cases hb : nameB (s.extract a (p + 1)) = true
    · rw [if_pos hb, show ((p : Int) + 1).toNat = p + 1 by omega]; exact hb
    · rw [if_neg hb] at h; exact absurd h (by decide)
/-- Data that may be, and that lies uncompressed, is read. -/
theorem data_of {S d : ByteArray} {i : Nat} {t : Int} (hS : S.size ≤ 16000) (h : i + d.size ≤ S.size) (he : S.extract i (i + d.size) = d) (hm : Rd.mayD t d = true) : Ev (fun k => comp_Data.f k S (i : Int) (d.size : Int) t) (d, 0) := by
  have sub : ∀ a b, b ≤ d.size → S.extract (i + a) (i + b) = d.extract a b := fun a b hb => by rw [← ext_ext S i (i + d.size) a b (by omega), he]
  have hm0 := hm
  unfold Rd.mayD at hm
  by_cases c1 : t < 1
  · rw [if_pos c1] at hm; cases hm
  rw [if_neg c1] at hm
  by_cases c2 : 65535 < t
  · rw [if_pos c2] at hm; cases hm
  rw [if_neg c2] at hm
  by_cases c3 : 65535 < d.size
  · rw [if_pos c3] at hm; cases hm
  rw [if_neg c3] at hm
  by_cases k1 : t = 2 ∨ t = 5 ∨ t = 12
  · have hn : nameB d = true := by
      rcases k1 with rfl | rfl | rfl <;> simpa using hm
    have H := data_names (t := t) (s := S) (i := i) (z := d.size) (a := 0) (more := 0) (q := i + d.size) (by omega) (by have := (name_first hn).2.1; omega) h (shape_1 k1) (by decide) (by omega) (names_1 (name_plain hn h hS he) (name_first hn).2.1) (by omega)
    have e : S.extract i (i + 0) ++ d ++ S.extract (i + d.size) (i + d.size) = d := by simp
    rw [e] at H
    exact H hm0
  · by_cases k2 : t = 15
    · subst k2
      have hn : 2 ≤ d.size ∧ nameB (d.extract 2 d.size) = true := by simpa using hm
      have hz : (d.extract 2 d.size).size = d.size - 2 := by rw [ByteArray.size_extract]; omega
      have hb := (name_first hn.2).2.1
      have hp := name_plain (S := S) (i := i + 2) hn.2 (by omega) hS (by rw [hz, show i + 2 + (d.size - 2) = i + d.size by omega]; exact sub 2 d.size (Nat.le_refl _))
      rw [hz, show i + 2 + (d.size - 2) = i + d.size by omega] at hp
      have H := data_names (t := 15) (s := S) (i := i) (z := d.size) (a := 2) (more := 0) (q := i + d.size) (by omega) (by omega) h shape_15 (by decide) (by omega) (names_1 hp hb) (by omega)
      rw [show S.extract i (i + 2) = d.extract 0 2 from sub 0 2 hn.1, show S.extract (i + d.size) (i + d.size) = ⟨#[]⟩ by simp; rfl, ext_join d 0 2 d.size (by omega) hn.1, ext0, show d ++ (⟨#[]⟩ : ByteArray) = d from ByteArray.append_empty] at H
      exact H hm0
    · by_cases k3 : t = 6
      · subst k3
        have hn : Rd.soaB d = true := by simpa using hm
        unfold Rd.soaB at hn
        simp only [Bool.and_eq_true, decide_eq_true_eq] at hn
        obtain ⟨a0, a1, a2⟩ := hn
        obtain ⟨p, hp⟩ : ∃ p : Nat, endN d 0 = (p : Int) := ⟨(endN d 0).toNat, by omega⟩
        have n1 := endN_name a0
        have b1 := Rd.endN_bd a0
        rw [hp, Int.toNat_natCast] at a1 a2 n1
        rw [hp] at b1
        obtain ⟨q, hq⟩ : ∃ q : Nat, endN d p = (q : Int) := ⟨(endN d p).toNat, by omega⟩
        have n2 := endN_name a1
        have b2 := Rd.endN_bd a1
        rw [hq, Int.toNat_natCast] at n2
        rw [hq] at b2 a2
        have z1 : (d.extract 0 p).size = p := by rw [ByteArray.size_extract]; omega
        have z2 : (d.extract p q).size = q - p := by rw [ByteArray.size_extract]; omega
        have f1 := (name_first n1).2.1
        have f2 := (name_first n2).2.1
        have e1 := name_plain (S := S) (i := i) n1 (by omega) hS (by rw [z1]; exact sub 0 p (by omega))
        have e2 := name_plain (S := S) (i := i + p) n2 (by omega) hS (by rw [z2, show i + p + (q - p) = i + q by omega]; exact sub p q (by omega))
        rw [z1] at e1
        rw [z2, show i + p + (q - p) = i + q by omega] at e2
        have H := data_names (t := 6) (s := S) (i := i) (z := d.size) (a := 0) (more := 20) (q := i + q) (by omega) (by rw [ByteArray.size_append]; omega) h shape_6 (by decide) (by omega) (names_2 e1 e2 f1 f2) (by omega)
        rw [show S.extract i (i + 0) = ⟨#[]⟩ by simp; rfl, sub q d.size (Nat.le_refl _), show (⟨#[]⟩ : ByteArray) ++ (d.extract 0 p ++ d.extract p q) = d.extract 0 p ++ d.extract p q from ByteArray.empty_append, ext_join d 0 p q (by omega) (by omega), ext_join d 0 q d.size (by omega) (by omega), ext0] at H
        exact H hm0
      · have H := data_plain (t := t) (s := S) (i := i) (z := d.size) (by omega) h (shape_0 (fun e => k1 (.inl e)) (fun e => k1 (.inr (.inl e))) (fun e => k1 (.inr (.inr e))) k2 k3)
        rw [he] at H
        exact H hm0
/-! ### A question, a record -/
theorem num16_ok {s : ByteArray} {i : Nat} (h : i + 2 ≤ s.size) : numV ⟨(i : Int), false⟩ (u16V s (i : Int)) = (be2 s i, ⟨((i + 2 : Nat) : Int), false⟩) := by
  unfold numV u16V
  rw [if_pos (show 0 ≤ (i : Int) ∧ (i : Int) + 2 ≤ (s.size : Int) by omega), Int.toNat_natCast]
  simp
theorem num32_ok {s : ByteArray} {i : Nat} (h : i + 4 ≤ s.size) : numV ⟨(i : Int), false⟩ (u32V s (i : Int)) = (be4 s i, ⟨((i + 4 : Nat) : Int), false⟩) := by
  unfold numV u32V
  rw [if_pos (show 0 ≤ (i : Int) ∧ (i : Int) + 4 ≤ (s.size : Int) by omega), Int.toNat_natCast]
  simp
theorem quest_ev {S n : ByteArray} {i nx : Nat} (h : Ev (fun k => comp_Name.f k S (i : Int)) (n, (nx : Int), 0)) (hx : nx + 4 ≤ S.size) : Ev (fun k => questV k S ⟨(i : Int), false⟩) (⟨n, be2 S nx, be2 S (nx + 2)⟩, ⟨((nx + 4 : Nat) : Int), be2 S nx == 0⟩) := by
  unfold questV
  refine Ev.bind h ?_
  refine Ev.neg (by simp) (Ev.some _ fun _ => ?_)
  dsimp only
  rw [num16_ok (by omega)]
  dsimp only
  rw [num16_ok (i := nx + 2) (by omega)]
  simp
  omega
theorem rec_ev {S n d : ByteArray} {i nx z : Nat} (h : Ev (fun k => comp_Name.f k S (i : Int)) (n, (nx : Int), 0)) (ht : be2 S nx ≠ 0) (hS : S.size ≤ 16000) (hz : be2 S (nx + 8) = (z : Int)) (hx : nx + 10 + z ≤ S.size) (hd : Ev (fun k => comp_Data.f k S ((nx + 10 : Nat) : Int) (z : Int) (be2 S nx)) (d, 0)) :
    Ev (fun k => recV k S ⟨(i : Int), false⟩) (⟨n, be2 S nx, be2 S (nx + 2), be4 S (nx + 4), d⟩, ⟨((nx + 10 + z : Nat) : Int), false⟩) := by
  unfold recV
  have hq := quest_ev h (by omega)
  rw [show (be2 S nx == 0) = false by simpa using ht] at hq
  have e1 : recN1 S (⟨n, be2 S nx, be2 S (nx + 2)⟩, ⟨((nx + 4 : Nat) : Int), false⟩) = (be4 S (nx + 4), ⟨((nx + 4 + 4 : Nat) : Int), false⟩) := num32_ok (by omega)
  have e2 : recN2 S (⟨n, be2 S nx, be2 S (nx + 2)⟩, ⟨((nx + 4 : Nat) : Int), false⟩) = ((z : Int), ⟨((nx + 10 : Nat) : Int), false⟩) := by
    unfold recN2
    rw [e1]
    dsimp only
    rw [num16_ok (i := nx + 4 + 4) (by omega), hz]
  refine Ev.bind hq ?_
  simp only [e1, e2]
  refine Ev.bind hd ?_
  refine Ev.neg (by simp) (Ev.some _ fun _ => ?_)
  rw [Pu.w64 (by omega) (by omega)]
  congr 4
end Go.Proofs.Ytjklgdpffmaamaa.Wm

namespace Go.Proofs.Ytjklgdpffmaamaa.Wm
open Go.RowKit Go.PlainAid Go.Proofs.Ytjklgdpffmaamaa.Base Go.Proofs.Ytjklgdpffmaamaa.Oct Go.Proofs.Ytjklgdpffmaamaa.Nm Go.Proofs.Ytjklgdpffmaamaa.Wr Go.Proofs.Ytjklgdpffmaamaa.PCm Go.Proofs.Ytjklgdpffmaamaa.CompS Go.Proofs.Ytjklgdpffmaamaa.Pu
open Go.Proofs.YtjklgdpffmaamaaW.PrintWords (Ev bytesOf bytesOf_length LeO)
set_option linter.unusedVariables false
/-! ### The writer's state -/
theorem raw_ok {st : St} {s : ByteArray} (h : (rawSt st s).lg = false) : st.lg = false ∧ st.S.size + s.size ≤ 4096 ∧ rawSt st s = ⟨st.S ++ s, st.m, false⟩ := by
  unfold rawSt at h ⊢
  by_cases c : 4096 < st.S.size + s.size
  · rw [if_pos c] at h; cases h
  · rw [if_neg c] at h ⊢
    have h : st.lg = false := h
    exact ⟨h, by omega, by rw [h]⟩
theorem name_ok {st : St} {n : ByteArray} (h : (nameSt st n).lg = false) : nameB n = true ∧ st.lg = false ∧ st.S.size + (outN st.m n).size ≤ 4096 ∧ nameSt st n = ⟨st.S ++ outN st.m n, putN st.m n st.S.size, false⟩ := by
  unfold nameSt at h ⊢
  by_cases b : nameB n = true
  · rw [if_pos b] at h ⊢
    by_cases c : 4096 < st.S.size + (outN st.m n).size
    · rw [if_pos c] at h; cases h
    · rw [if_neg c] at h ⊢
      have h : st.lg = false := h
      exact ⟨b, h, by omega, by rw [h]⟩
  · rw [if_neg b] at h; cases h
/-- All is well with the writer: what it keeps lies where it says. -/
structure Good (st : St) : Prop where
  known : Known st.S st.m
  size : st.S.size ≤ 4096
  lg : st.lg = false
theorem known_more {S : ByteArray} {m : ByteArray → Option Int} (h : Known S m) (T : ByteArray) : Known (S ++ T) m := fun r t hr => by
  obtain ⟨i, nx, e, hi, hl⟩ := h r t hr
  exact ⟨i, nx, e, hi, hl.more T⟩
theorem Good.raw {st : St} (H : st.lg = false → Good st) {s : ByteArray} (h : (rawSt st s).lg = false) : Good (rawSt st s) := by
  obtain ⟨h1, h2, h3⟩ := raw_ok h
  rw [h3]
  exact ⟨known_more (H h1).known s, by show (st.S ++ s).size ≤ 4096; rw [ByteArray.size_append]; exact h2, rfl⟩
theorem name_size {n : ByteArray} (h : nameB n = true) : n.size ≤ 255 := (name_first h).2.1
theorem Good.name {st : St} (H : st.lg = false → Good st) {n : ByteArray} (h : (nameSt st n).lg = false) : Good (nameSt st n) := by
  obtain ⟨h0, h1, h2, h3⟩ := name_ok h
  have hn := name_size h0
  have hz := (H h1).size
  rw [h3]
  exact ⟨(put_known (H h1).known h0 (by omega)).2.2, by show (st.S ++ _).size ≤ 4096; rw [ByteArray.size_append]; exact h2, rfl⟩
/-! ### Numbers -/
theorem be2_mid (a b : ByteArray) (x : Int) (i : Nat) (hi : i = a.size) (h0 : 0 ≤ x) (h1 : x ≤ 65535) : be2 (a ++ p16 x ++ b) i = x := Hd.be2_at a b x i hi.symm h0 h1
theorem be4_left (s t : ByteArray) (i : Nat) (h : i + 4 ≤ s.size) : be4 (s ++ t) i = be4 s i := by
  unfold be4
  rw [bt_append_left _ _ _ (by omega), bt_append_left _ _ _ (by omega), bt_append_left _ _ _ (by omega), bt_append_left _ _ _ (by omega)]
theorem be4_right (s t : ByteArray) (i : Nat) (h : s.size ≤ i) : be4 (s ++ t) i = be4 t (i - s.size) := by
  unfold be4
  rw [bt_append_right _ _ _ h, bt_append_right _ _ _ (by omega), bt_append_right _ _ _ (by omega), bt_append_right _ _ _ (by omega)]
  rw [show i + 1 - s.size = i - s.size + 1 by omega, show i + 2 - s.size = i - s.size + 2 by omega, show i + 3 - s.size = i - s.size + 3 by omega]
theorem be4_p32 (x : Int) (h0 : 0 ≤ x) (h1 : x ≤ 4294967295) : be4 (p32 x) 0 = x := by
  unfold be4 p32
  rw [bt_nums _ 0 ((x / 16777216) % 256) rfl (by omega) (by omega), bt_nums _ 1 ((x / 65536) % 256) rfl (by omega) (by omega), bt_nums _ 2 ((x / 256) % 256) rfl (by omega) (by omega), bt_nums _ 3 (x % 256) rfl (by omega) (by omega)]
  omega
theorem be4_mid (a b : ByteArray) (x : Int) (i : Nat) (hi : i = a.size) (h0 : 0 ≤ x) (h1 : x ≤ 4294967295) : be4 (a ++ p32 x ++ b) i = x := by
  subst hi
  rw [ByteArray.append_assoc, be4_right _ _ _ (Nat.le_refl _), Nat.sub_self, be4_left _ _ _ (by rw [p32_size]; omega), be4_p32 x h0 h1]
theorem inB_iff {x lo hi : Int} : inB x lo hi = true ↔ lo ≤ x ∧ x ≤ hi := by unfold inB; simp
/-! ### A question -/
theorem qSt_ok {st : St} {n : ByteArray} {t c : Int} (h : (qSt st n t c).lg = false) : nameB n = true ∧ st.lg = false ∧ st.S.size + (outN st.m n).size + 4 ≤ 4096 ∧ qSt st n t c = ⟨st.S ++ outN st.m n ++ (p16 t ++ p16 c), putN st.m n st.S.size, false⟩ := by
  unfold qSt at h ⊢
  obtain ⟨h1, h2, h3⟩ := raw_ok h
  obtain ⟨k0, k1, k2, k3⟩ := name_ok h1
  rw [k3] at h2 h3 ⊢
  have z : (p16 t ++ p16 c).size = 4 := by rw [ByteArray.size_append, p16_size, p16_size]
  have h2 : (st.S ++ outN st.m n).size + (p16 t ++ p16 c).size ≤ 4096 := h2
  rw [ByteArray.size_append, z] at h2
  exact ⟨k0, k1, by omega, h3⟩
theorem Good.q {st : St} (H : st.lg = false → Good st) {n : ByteArray} {t c : Int} (h : (qSt st n t c).lg = false) : Good (qSt st n t c) := by
  unfold qSt at h ⊢
  exact Good.raw (fun k => Good.name H k) h
/-- Behind a name that was put: it is read there, in whatever goes on. -/
theorem name_read {st : St} (H : Good st) {n U : ByteArray} (hn : nameB n = true) (hz : (st.S ++ outN st.m n ++ U).size ≤ 16000) : Ev (fun k => comp_Name.f k (st.S ++ outN st.m n ++ U) (st.S.size : Int)) (n, ((st.S.size + (outN st.m n).size : Nat) : Int), 0) := by
  have hs := name_size hn
  have hS := H.size
  have L := (put_known H.known hn (by omega)).2.1.more U
  rw [ByteArray.size_append] at L
  exact L.name (by omega) hs
theorem q_read {st : St} (H : Good st) {q : Qn} (hm : qMay q = true) (h : (qStep st q).lg = false) (U : ByteArray) (hz : ((qStep st q).S ++ U).size ≤ 16000) :
    Ev (fun k => questV k ((qStep st q).S ++ U) ⟨(st.S.size : Int), false⟩) (q, ⟨((qStep st q).S.size : Int), false⟩) := by
  obtain ⟨n, t, c⟩ := q
  unfold qMay at hm
  simp only [Bool.and_eq_true, inB_iff] at hm
  obtain ⟨⟨hn, t1, t2⟩, c1, c2⟩ := hm
  obtain ⟨_, _, h2, h3⟩ := qSt_ok h
  have e3 : qStep st ⟨n, t, c⟩ = ⟨st.S ++ outN st.m n ++ (p16 t ++ p16 c), putN st.m n st.S.size, false⟩ := h3
  rw [e3] at hz ⊢
  dsimp only at hz ⊢
  have eS : st.S ++ outN st.m n ++ (p16 t ++ p16 c) ++ U = st.S ++ outN st.m n ++ (p16 t ++ (p16 c ++ U)) := by simp only [ByteArray.append_assoc]
  have zS : (st.S ++ outN st.m n ++ (p16 t ++ p16 c)).size = st.S.size + (outN st.m n).size + 4 := by simp only [ByteArray.size_append, p16_size]
  have zT : (st.S ++ outN st.m n ++ (p16 t ++ p16 c) ++ U).size = st.S.size + (outN st.m n).size + 4 + U.size := by rw [ByteArray.size_append, zS]
  have hr := name_read H (n := n) (U := p16 t ++ (p16 c ++ U)) hn (by rw [← eS]; exact hz)
  rw [← eS] at hr
  have E := quest_ev hr (by rw [zT]; omega)
  have b1 : be2 (st.S ++ outN st.m n ++ (p16 t ++ p16 c) ++ U) (st.S.size + (outN st.m n).size) = t := by
    rw [show st.S ++ outN st.m n ++ (p16 t ++ p16 c) ++ U = (st.S ++ outN st.m n) ++ p16 t ++ (p16 c ++ U) by simp only [ByteArray.append_assoc]]
    exact be2_mid _ _ _ _ (by rw [ByteArray.size_append]) (by omega) t2
  have b2 : be2 (st.S ++ outN st.m n ++ (p16 t ++ p16 c) ++ U) (st.S.size + (outN st.m n).size + 2) = c := by
    rw [show st.S ++ outN st.m n ++ (p16 t ++ p16 c) ++ U = (st.S ++ outN st.m n ++ p16 t) ++ p16 c ++ U by simp only [ByteArray.append_assoc]]
    exact be2_mid _ _ _ _ (by simp only [ByteArray.size_append, p16_size]) c1 c2
  rw [b1, b2, show (t == 0) = false by simp; omega] at E
  rw [zS]
  exact E
/-! ### A record -/
theorem rSt_ok {st : St} {r : Rr} (h : (rSt st r).lg = false) : nameB r.name = true ∧ st.lg = false ∧ st.S.size + (outN st.m r.name).size + 10 + r.data.size ≤ 4096 ∧
    rSt st r = ⟨st.S ++ outN st.m r.name ++ (p16 r.type ++ p16 r.cls) ++ (p32 r.ttl ++ p16 (r.data.size : Int) ++ r.data), putN st.m r.name st.S.size, false⟩ := by
  unfold rSt at h ⊢
  obtain ⟨h1, h2, h3⟩ := raw_ok h
  obtain ⟨k0, k1, k2, k3⟩ := qSt_ok h1
  rw [k3] at h2 h3 ⊢
  have z : (p32 r.ttl ++ p16 (r.data.size : Int) ++ r.data).size = 6 + r.data.size := by simp only [ByteArray.size_append, p16_size, p32_size]
  have h2 : (st.S ++ outN st.m r.name ++ (p16 r.type ++ p16 r.cls)).size + (p32 r.ttl ++ p16 (r.data.size : Int) ++ r.data).size ≤ 4096 := h2
  rw [z] at h2
  simp only [ByteArray.size_append, p16_size] at h2
  exact ⟨k0, k1, by omega, h3⟩
theorem Good.r {st : St} (H : st.lg = false → Good st) {r : Rr} (h : (rSt st r).lg = false) : Good (rSt st r) := by
  unfold rSt at h ⊢
  exact Good.raw (fun k => Good.q H k) h
theorem r_read {st : St} (H : Good st) {r : Rr} (hm : rMay r = true) (h : (rSt st r).lg = false) (U : ByteArray) (hz : ((rSt st r).S ++ U).size ≤ 16000) :
    Ev (fun k => recV k ((rSt st r).S ++ U) ⟨(st.S.size : Int), false⟩) (r, ⟨((rSt st r).S.size : Int), false⟩) := by
  obtain ⟨n, t, c, l, d⟩ := r
  unfold rMay at hm
  simp only [Bool.and_eq_true, inB_iff] at hm
  obtain ⟨⟨⟨⟨hn, t1, t2⟩, c1, c2⟩, l1, l2⟩, hd⟩ := hm
  obtain ⟨_, _, h2, h3⟩ := rSt_ok h
  dsimp only at h2 h3 hn hd t1 t2 c1 c2 l1 l2
  rw [h3] at hz ⊢
  dsimp only at hz ⊢
  generalize hT : st.S ++ outN st.m n ++ (p16 t ++ p16 c) ++ (p32 l ++ p16 (d.size : Int) ++ d) ++ U = T at hz ⊢
  have zA : (st.S ++ outN st.m n).size = st.S.size + (outN st.m n).size := ByteArray.size_append
  have zS : (st.S ++ outN st.m n ++ (p16 t ++ p16 c) ++ (p32 l ++ p16 (d.size : Int) ++ d)).size = st.S.size + (outN st.m n).size + 10 + d.size := by simp only [ByteArray.size_append, p16_size, p32_size]; omega
  have zT : T.size = st.S.size + (outN st.m n).size + 10 + d.size + U.size := by rw [← hT, ByteArray.size_append, zS]
  have hr := name_read H (n := n) (U := p16 t ++ (p16 c ++ (p32 l ++ (p16 (d.size : Int) ++ (d ++ U))))) hn
  rw [show st.S ++ outN st.m n ++ (p16 t ++ (p16 c ++ (p32 l ++ (p16 (d.size : Int) ++ (d ++ U))))) = T by rw [← hT]; simp only [ByteArray.append_assoc]] at hr
  have b1 : be2 T (st.S.size + (outN st.m n).size) = t := by
    rw [show T = (st.S ++ outN st.m n) ++ p16 t ++ (p16 c ++ (p32 l ++ (p16 (d.size : Int) ++ (d ++ U)))) by rw [← hT]; simp only [ByteArray.append_assoc]]
    exact be2_mid _ _ _ _ (by rw [ByteArray.size_append]) (by omega) t2
  have b2 : be2 T (st.S.size + (outN st.m n).size + 2) = c := by
    rw [show T = (st.S ++ outN st.m n ++ p16 t) ++ p16 c ++ (p32 l ++ (p16 (d.size : Int) ++ (d ++ U))) by rw [← hT]; simp only [ByteArray.append_assoc]]
    exact be2_mid _ _ _ _ (by simp only [ByteArray.size_append, p16_size]) c1 c2
  have b3 : be4 T (st.S.size + (outN st.m n).size + 4) = l := by
    rw [show T = (st.S ++ outN st.m n ++ p16 t ++ p16 c) ++ p32 l ++ (p16 (d.size : Int) ++ (d ++ U)) by rw [← hT]; simp only [ByteArray.append_assoc]]
    exact be4_mid _ _ _ _ (by simp only [ByteArray.size_append, p16_size]) l1 l2
  have b4 : be2 T (st.S.size + (outN st.m n).size + 8) = (d.size : Int) := by
    rw [show T = (st.S ++ outN st.m n ++ p16 t ++ p16 c ++ p32 l) ++ p16 (d.size : Int) ++ (d ++ U) by rw [← hT]; simp only [ByteArray.append_assoc]]
    exact be2_mid _ _ _ _ (by simp only [ByteArray.size_append, p16_size, p32_size]) (by omega) (by omega)
  have hD : T.extract (st.S.size + (outN st.m n).size + 10) (st.S.size + (outN st.m n).size + 10 + d.size) = d := by
    rw [show T = (st.S ++ outN st.m n ++ p16 t ++ p16 c ++ p32 l ++ p16 (d.size : Int)) ++ (d ++ U) by rw [← hT]; simp only [ByteArray.append_assoc]]
    have zz : (st.S ++ outN st.m n ++ p16 t ++ p16 c ++ p32 l ++ p16 (d.size : Int)).size = st.S.size + (outN st.m n).size + 10 := by simp only [ByteArray.size_append, p16_size, p32_size]
    rw [← zz, ext_right, ext_left _ _ _ _ (Nat.le_refl _), ext0]
  have E := rec_ev (S := T) (i := st.S.size) (nx := st.S.size + (outN st.m n).size) (z := d.size) (d := d) (hr hz) (by rw [b1]; omega) hz b4 (by rw [zT]; omega) (by rw [b1]; exact data_of hz (by rw [zT]; omega) hD hd)
  rw [b1, b2, b3] at E
  rw [zS]
  exact E
/-! ### Lists -/
theorem foldQ_lg : ∀ (qs : List Qn) (st : St), (qs.foldl qStep st).lg = false → st.lg = false
  | [], _, h => h
  | q :: qs, st, h => (qSt_ok (foldQ_lg qs _ h)).2.1
theorem foldR_lg : ∀ (rs : List Rr) (st : St), (rs.foldl rSt st).lg = false → st.lg = false
  | [], _, h => h
  | r :: rs, st, h => (rSt_ok (foldR_lg rs _ h)).2.1
theorem foldQ_good : ∀ (qs : List Qn) (st : St), (st.lg = false → Good st) → (qs.foldl qStep st).lg = false → Good (qs.foldl qStep st)
  | [], _, H, h => H h
  | q :: qs, st, H, h => foldQ_good qs _ (fun k => Good.q H k) h
theorem foldR_good : ∀ (rs : List Rr) (st : St), (st.lg = false → Good st) → (rs.foldl rSt st).lg = false → Good (rs.foldl rSt st)
  | [], _, H, h => H h
  | r :: rs, st, H, h => foldR_good rs _ (fun k => Good.r H k) h
theorem foldQ_more : ∀ (qs : List Qn) (st : St), (qs.foldl qStep st).lg = false → ∃ V, (qs.foldl qStep st).S = st.S ++ V
  | [], st, _ => ⟨⟨#[]⟩, ByteArray.append_empty.symm⟩
  | q :: qs, st, h => by
    obtain ⟨V, hV⟩ := foldQ_more qs _ h
    obtain ⟨_, _, _, e⟩ := qSt_ok (foldQ_lg qs _ h)
    have e : qStep st q = _ := e
    refine ⟨outN st.m q.name ++ (p16 q.type ++ p16 q.cls) ++ V, ?_⟩
    rw [List.foldl_cons, hV, e]
    simp only [ByteArray.append_assoc]
theorem foldR_more : ∀ (rs : List Rr) (st : St), (rs.foldl rSt st).lg = false → ∃ V, (rs.foldl rSt st).S = st.S ++ V
  | [], st, _ => ⟨⟨#[]⟩, ByteArray.append_empty.symm⟩
  | r :: rs, st, h => by
    obtain ⟨V, hV⟩ := foldR_more rs _ h
    obtain ⟨_, _, _, e⟩ := rSt_ok (foldR_lg rs _ h)
    refine ⟨outN st.m r.name ++ (p16 r.type ++ p16 r.cls) ++ (p32 r.ttl ++ p16 (r.data.size : Int) ++ r.data) ++ V, ?_⟩
    rw [List.foldl_cons, hV, e]
    simp only [ByteArray.append_assoc]
theorem loopQ_read (T : ByteArray) (hT : T.size ≤ 16000) : ∀ (qs : List Qn) (st : St) (acc : List Qn), Good st → (∀ q ∈ qs, qMay q = true) → (qs.foldl qStep st).lg = false → (∃ U, T = (qs.foldl qStep st).S ++ U) →
    Ev (fun k => loopQ k T qs.length ⟨(st.S.size : Int), false⟩ acc) (acc ++ qs, ⟨((qs.foldl qStep st).S.size : Int), false⟩)
  | [], st, acc, _, _, _, _ => by simpa [loopQ] using Ev.now (acc, (⟨(st.S.size : Int), false⟩ : Rs))
  | q :: qs, st, acc, H, hm, h, hU => by
    have h1 := foldQ_lg qs _ h
    obtain ⟨V, hV⟩ := foldQ_more qs _ h
    obtain ⟨U, hU⟩ := hU
    have eT : T = (qStep st q).S ++ (V ++ U) := by rw [hU, List.foldl_cons, hV, ByteArray.append_assoc]
    have E := q_read H (hm q (List.mem_cons_self ..)) h1 (V ++ U) (by rw [← eT]; exact hT)
    rw [← eT] at E
    show Ev (fun k => if (false : Bool) = true then _ else _) _
    refine Ev.neg (by decide) (Ev.bind E ?_)
    have := loopQ_read T hT qs (qStep st q) (acc ++ [q]) (Good.q (fun _ => H) h1) (fun x hx => hm x (List.mem_cons_of_mem _ hx)) h ⟨U, hU⟩
    rw [List.append_assoc, List.singleton_append] at this
    exact this
theorem loopR_read (T : ByteArray) (hT : T.size ≤ 16000) : ∀ (rs : List Rr) (st : St) (acc : List Rr), Good st → (∀ r ∈ rs, rMay r = true) → (rs.foldl rSt st).lg = false → (∃ U, T = (rs.foldl rSt st).S ++ U) →
    Ev (fun k => loopR k T rs.length ⟨(st.S.size : Int), false⟩ acc) (acc ++ rs, ⟨((rs.foldl rSt st).S.size : Int), false⟩)
  | [], st, acc, _, _, _, _ => by simpa [loopR] using Ev.now (acc, (⟨(st.S.size : Int), false⟩ : Rs))
  | r :: rs, st, acc, H, hm, h, hU => by
    have h1 := foldR_lg rs _ h
    obtain ⟨V, hV⟩ := foldR_more rs _ h
    obtain ⟨U, hU⟩ := hU
    have eT : T = (rSt st r).S ++ (V ++ U) := by rw [hU, List.foldl_cons, hV, ByteArray.append_assoc]
    have E := r_read H (hm r (List.mem_cons_self ..)) h1 (V ++ U) (by rw [← eT]; exact hT)
    rw [← eT] at E
    show Ev (fun k => if (false : Bool) = true then _ else _) _
    refine Ev.neg (by decide) (Ev.bind E ?_)
    have := loopR_read T hT rs (rSt st r) (acc ++ [r]) (Good.r (fun _ => H) h1) (fun x hx => hm x (List.mem_cons_of_mem _ hx)) h ⟨U, hU⟩
    rw [List.append_assoc, List.singleton_append] at this
    exact this
theorem listQ_read {T : ByteArray} (hT : T.size ≤ 16000) {qs : List Qn} {st : St} (hl : qs.length ≤ 64) (H : Good st) (hm : ∀ q ∈ qs, qMay q = true) (h : (qs.foldl qStep st).lg = false) (hU : ∃ U, T = (qs.foldl qStep st).S ++ U) :
    Ev (fun k => listQ k T qs.length ⟨(st.S.size : Int), false⟩) (qs, ⟨((qs.foldl qStep st).S.size : Int), false⟩) := by
  unfold listQ
  rw [show (false || decide (64 < qs.length)) = false by simp; omega]
  exact loopQ_read T hT qs st [] H hm h hU
theorem listR_read {T : ByteArray} (hT : T.size ≤ 16000) {rs : List Rr} {st : St} (hl : rs.length ≤ 64) (H : Good st) (hm : ∀ r ∈ rs, rMay r = true) (h : (rs.foldl rSt st).lg = false) (hU : ∃ U, T = (rs.foldl rSt st).S ++ U) :
    Ev (fun k => listR k T rs.length ⟨(st.S.size : Int), false⟩) (rs, ⟨((rs.foldl rSt st).S.size : Int), false⟩) := by
  unfold listR
  rw [show (false || decide (64 < rs.length)) = false by simp; omega]
  exact loopR_read T hT rs st [] H hm h hU
end Go.Proofs.Ytjklgdpffmaamaa.Wm

namespace Go.Proofs.Ytjklgdpffmaamaa.Wm
open Go.RowKit Go.PlainAid Go.Proofs.Ytjklgdpffmaamaa.Base Go.Proofs.Ytjklgdpffmaamaa.Oct Go.Proofs.Ytjklgdpffmaamaa.Nm Go.Proofs.Ytjklgdpffmaamaa.Wr Go.Proofs.Ytjklgdpffmaamaa.PCm Go.Proofs.Ytjklgdpffmaamaa.CompS Go.Proofs.Ytjklgdpffmaamaa.Pu
open Go.Proofs.YtjklgdpffmaamaaW.PrintWords (Ev bytesOf bytesOf_length LeO)
set_option linter.unusedVariables false
theorem st0_ok {hS : ByteArray} (h : hS.size = 12) : st0 hS = ⟨hS, fun _ => none, false⟩ := by
  unfold st0 rawSt
  rw [if_neg (by show ¬ 4096 < 0 + hS.size; omega)]
  rw [show (⟨#[]⟩ : ByteArray) ++ hS = hS from ByteArray.empty_append]
theorem st0_good {hS : ByteArray} (h : hS.size = 12) : Good (st0 hS) := by
  rw [st0_ok h]
  exact ⟨(fun r t k => by cases k), by show hS.size ≤ 4096; omega, rfl⟩
theorem putOk_parts {m : MsgV} (h : putOk m = true) : hOk m = true ∧ hStr m = m.h.putS m.qs.length m.an.length m.ns.length m.ar.length ∧ (m.qs.length ≤ 64 ∧ m.an.length ≤ 64 ∧ m.ns.length ≤ 64 ∧ m.ar.length ≤ 64) ∧ (∀ q ∈ m.qs, qMay q = true) ∧ (∀ r ∈ m.an, rMay r = true) ∧ (∀ r ∈ m.ns, rMay r = true) ∧ (∀ r ∈ m.ar, rMay r = true) := by
  unfold putOk at h
  simp only [Bool.and_eq_true] at h
  obtain ⟨h0, h1⟩ := h
  have hl := fits_len h1
  unfold fitsB at h1
  simp only [Bool.and_eq_true, List.all_eq_true] at h1
  obtain ⟨⟨⟨⟨_, a⟩, _, b⟩, _, c⟩, _, d⟩ := h1
  refine ⟨h0, ?_, hl, a, b, c, d⟩
  unfold hStr Hd.wroteS
  exact if_pos h0
structure Steps (m : MsgV) where
  g0 : Good (st0 (hStr m))
  gq : Good (m.qs.foldl qStep (st0 (hStr m)))
  ga : Good (m.an.foldl rSt (m.qs.foldl qStep (st0 (hStr m))))
  gn : Good (m.ns.foldl rSt (m.an.foldl rSt (m.qs.foldl qStep (st0 (hStr m)))))
  gr : Good (putEnd m)
theorem steps {m : MsgV} (hok : putOk m = true) (hl : (putEnd m).lg = false) : Steps m := by
  obtain ⟨h0, hs, _⟩ := putOk_parts hok
  have z : (hStr m).size = 12 := by rw [hs, Hd.putS_size]
  have l3 := foldR_lg m.ar _ hl
  have l2 := foldR_lg m.ns _ l3
  have l1 := foldR_lg m.an _ l2
  have G0 := st0_good z
  have G1 := foldQ_good m.qs _ (fun _ => G0) l1
  have G2 := foldR_good m.an _ (fun _ => G1) l2
  have G3 := foldR_good m.ns _ (fun _ => G2) l3
  exact ⟨G0, G1, G2, G3, foldR_good m.ar _ (fun _ => G3) hl⟩
/-- Reading what was written, whatever goes on behind it. -/
theorem get_put {m : MsgV} (hok : putOk m = true) (hl : (putEnd m).lg = false) (U : ByteArray) (hz : ((putEnd m).S ++ U).size ≤ 4096) :
    Ev (fun k => getV k ((putEnd m).S ++ U)) (if U.size = 0 then ⟨m.h, m.qs, m.an, m.ns, m.ar, 0⟩ else got0 700) := by
  obtain ⟨h0, hs, ⟨n1, n2, n3, n4⟩, q1, q2, q3, q4⟩ := putOk_parts hok
  have z : (hStr m).size = 12 := by rw [hs, Hd.putS_size]
  obtain ⟨G0, G1, G2, G3, G4⟩ := steps hok hl
  obtain ⟨V1, e1⟩ := foldQ_more m.qs (st0 (hStr m)) G1.lg
  obtain ⟨V2, e2⟩ := foldR_more m.an _ G2.lg
  obtain ⟨V3, e3⟩ := foldR_more m.ns _ G3.lg
  obtain ⟨V4, e4⟩ := foldR_more m.ar _ G4.lg
  have e4 : (putEnd m).S = (m.ns.foldl rSt (m.an.foldl rSt (m.qs.foldl qStep (st0 (hStr m))))).S ++ V4 := e4
  have s0 : (st0 (hStr m)).S = hStr m := by rw [st0_ok z]
  rw [s0] at e1
  generalize hT : (putEnd m).S ++ U = T at hz ⊢
  have eT : T = m.h.putS m.qs.length m.an.length m.ns.length m.ar.length ++ (V1 ++ (V2 ++ (V3 ++ (V4 ++ U)))) := by
    rw [← hT, e4, e3, e2, e1, hs]; simp only [ByteArray.append_assoc]
  have zT : 12 ≤ T.size := by rw [eT, ByteArray.size_append, Hd.putS_size]; omega
  obtain ⟨b0, b4, b6, b8, b10, _⟩ := Hd.back m.h _ _ _ _ (V1 ++ (V2 ++ (V3 ++ (V4 ++ U)))) h0
  rw [← eT, Hd.gotH_yes zT] at b0
  rw [← eT, Hd.gotC_yes zT] at b4 b6 b8 b10
  have zU : T.size = (putEnd m).S.size + U.size := by rw [← hT, ByteArray.size_append]
  unfold getV
  refine Ev.neg (by omega) (Ev.neg (by omega) ?_)
  rw [b4, b6, b8, b10]
  simp only [Int.toNat_natCast]
  have c1 : ∃ X, T = (m.qs.foldl qStep (st0 (hStr m))).S ++ X := ⟨V2 ++ (V3 ++ (V4 ++ U)), by rw [← hT, e4, e3, e2]; simp only [ByteArray.append_assoc]⟩
  have c2 : ∃ X, T = (m.an.foldl rSt (m.qs.foldl qStep (st0 (hStr m)))).S ++ X := ⟨V3 ++ (V4 ++ U), by rw [← hT, e4, e3]; simp only [ByteArray.append_assoc]⟩
  have c3 : ∃ X, T = (m.ns.foldl rSt (m.an.foldl rSt (m.qs.foldl qStep (st0 (hStr m))))).S ++ X := ⟨V4 ++ U, by rw [← hT, e4]; simp only [ByteArray.append_assoc]⟩
  have r1 := listQ_read (T := T) (by omega) n1 G0 q1 G1.lg c1
  rw [s0, z] at r1
  refine Ev.bind r1 ?_
  refine Ev.bind (listR_read (T := T) (by omega) n2 G1 q2 G2.lg c2) ?_
  refine Ev.bind (listR_read (T := T) (by omega) n3 G2 q3 G3.lg c3) ?_
  refine Ev.bind (listR_read (T := T) (by omega) n4 G3 q4 G4.lg ⟨U, hT.symm⟩) ?_
  dsimp only
  rw [show (List.foldl rSt (List.foldl rSt (List.foldl rSt (List.foldl qStep (st0 (hStr m)) m.qs) m.an) m.ns) m.ar) = putEnd m from rfl]
  by_cases hU : U.size = 0
  · rw [if_pos hU]
    refine Ev.neg (by simp; omega) (Ev.some _ fun _ => ?_)
    rw [b0]
  · rw [if_neg hU]
    exact Ev.pos (by simp; omega) (Ev.some _ fun _ => rfl)
theorem put_S {m : MsgV} (hok : putOk m = true) (hl : (putEnd m).lg = false) : putS m = (putEnd m).S ∧ putE m = 0 ∧ 12 ≤ (putEnd m).S.size ∧ (putEnd m).S.size ≤ 4096 := by
  unfold putS putE
  rw [if_pos hok, if_pos hok, if_neg (by rw [hl]; decide), if_neg (by rw [hl]; decide)]
  obtain ⟨h0, hs, _⟩ := putOk_parts hok
  have z : (hStr m).size = 12 := by rw [hs, Hd.putS_size]
  obtain ⟨G0, G1, G2, G3, G4⟩ := steps hok hl
  obtain ⟨V1, e1⟩ := foldQ_more m.qs (st0 (hStr m)) G1.lg
  obtain ⟨V2, e2⟩ := foldR_more m.an _ G2.lg
  obtain ⟨V3, e3⟩ := foldR_more m.ns _ G3.lg
  obtain ⟨V4, e4⟩ := foldR_more m.ar _ G4.lg
  have e4 : (putEnd m).S = (m.ns.foldl rSt (m.an.foldl rSt (m.qs.foldl qStep (st0 (hStr m))))).S ++ V4 := e4
  have s0 : (st0 (hStr m)).S = hStr m := by rw [st0_ok z]
  refine ⟨rfl, rfl, ?_, G4.size⟩
  rw [e4, e3, e2, e1, s0]
  simp only [ByteArray.size_append]
  omega
theorem put_err {m : MsgV} (h : ¬ (putOk m = true ∧ (putEnd m).lg = false)) : putS m = ⟨#[]⟩ ∧ (putE m = 700 ∧ putOk m = false ∨ putE m = 701 ∧ putOk m = true ∧ (putEnd m).lg = true) := by
  unfold putS putE
  by_cases hok : putOk m = true
  · have hl : (putEnd m).lg = true := by
      cases hl : (putEnd m).lg with
      | true => rfl
      | false => exact absurd ⟨hok, hl⟩ h
    rw [if_pos hok, if_pos hok, if_pos hl, if_pos hl]
    exact ⟨rfl, .inr ⟨rfl, hok, hl⟩⟩
  · rw [if_neg hok, if_neg hok]
    exact ⟨rfl, .inl ⟨rfl, by simpa using hok⟩⟩
end Go.Proofs.Ytjklgdpffmaamaa.Wm

namespace Go.Proofs.Ytjklgdpffmaamaa.Wm
open Go.RowKit Go.PlainAid Go.Proofs.Ytjklgdpffmaamaa.Base Go.Proofs.Ytjklgdpffmaamaa.Oct Go.Proofs.Ytjklgdpffmaamaa.Nm Go.Proofs.Ytjklgdpffmaamaa.Wr Go.Proofs.Ytjklgdpffmaamaa.PCm Go.Proofs.Ytjklgdpffmaamaa.CompS Go.Proofs.Ytjklgdpffmaamaa.Pu
open Go.Proofs.YtjklgdpffmaamaaW.PrintWords (Ev bytesOf bytesOf_length LeO)
set_option linter.unusedVariables false
/-! ### A name -/
theorem l_full {s : ByteArray} {i : Int} {out : List Int} {bg bh : Int} (h : 255 ≤ out.length) : Ev (fun k => comp_Name.l0 k s i out bg bh) err := by
  by_cases hi : i < (s.size : Int)
  · refine Ev.step (fun k => by rw [comp_Name.l0]) (Ev.pos hi ?_)
    rw [decide_eq_false (show ¬ (out.length : Int) < 255 by omega)]
    exact Ev.step (fun k => by rw [comp_Name.j1]) (Ev.neg (by simp) (Ev.now _))
  · exact l_end (by omega)
theorem l_short {s : ByteArray} {i : Int} {out : List Int} {bg bh b : Int} (hs : s.size ≤ 1000000) (h0 : 0 ≤ i) (h : i < (s.size : Int)) (ho : out.length < 255) (hb : Go.Proofs.YtjklgdpffmaamaaW.PrintWords.bt s i = b) (hz : b ≠ 0) (h63 : b ≤ 63) (hf : (s.size : Int) - i ≤ b) :
    Ev (fun k => comp_Name.l0 k s i out bg bh) err := by
  refine l_go h0 h ho hb hz (fun _ => ?_) (fun h => by omega)
  rw [Pu.w64 (x := (s.size : Int) - i) (by omega) (by omega), decide_eq_false (show ¬ b < (s.size : Int) - i by omega)]
  refine Ev.step (fun k => by rw [comp_Name.j2]) (Ev.neg (by simp) (Ev.neg (by omega) ?_))
  exact Ev.step (fun k => by rw [comp_Name.j3]) (Ev.neg (by simp) (Ev.now _))
theorem l_jump {s : ByteArray} {i : Int} {out : List Int} {bg bh b c tg : Int} {r : ByteArray × Int × Int} (hs : s.size ≤ 1000000) (h0 : 0 ≤ i) (h : i + 1 < (s.size : Int)) (ho : out.length < 255) (hb : Go.Proofs.YtjklgdpffmaamaaW.PrintWords.bt s i = b) (h192 : 192 ≤ b) (hc : Go.Proofs.YtjklgdpffmaamaaW.PrintWords.bt s (i + 1) = c) (htg : tg = (b - 192) * 256 + c) (hto : tg < bg)
    (k : Ev (fun k => comp_Name.l0 k s tg out tg (if bh < 0 then i + 2 else bh)) r) : Ev (fun k => comp_Name.l0 k s i out bg bh) r := by
  have r1 := Go.Proofs.YtjklgdpffmaamaaW.PrintWords.bt_range s i
  have r2 := Go.Proofs.YtjklgdpffmaamaaW.PrintWords.bt_range s (i + 1)
  rw [hb] at r1
  rw [hc] at r2
  have e := to_eq h192 r1.2 r2.1 r2.2
  refine l_go h0 (by omega) ho hb (by omega) (fun h => by omega) (fun _ => ?_)
  refine Ev.step (fun k => by rw [comp_Name.j2]) (Ev.neg (by simp) (Ev.pos (by omega) ?_))
  rw [Pu.w64 (x := i + 1) (by omega) (by omega), decide_eq_true (show i + 1 < (s.size : Int) by omega)]
  refine Ev.step (fun k => by rw [comp_Name.j3]) (Ev.pos rfl ?_)
  rw [Pu.w64 (x := i + 1) (by omega) (by omega), hc, e, ← htg]
  refine Ev.pos (by omega) (Ev.pos (by omega) (Ev.neg (by omega) ?_))
  by_cases hbh : bh < 0
  · refine Ev.pos hbh ?_
    rw [if_pos hbh] at k
    rw [Pu.w64 (x := i + 2) (by omega) (by omega)]
    exact k
  · refine Ev.neg hbh ?_
    rw [if_neg hbh] at k
    exact k
theorem meas {bg tg n l : Nat} (h : 350 * bg + 350 ≤ n + 1 + l) (h2 : tg + 1 ≤ bg) : 350 * tg + 350 ≤ n + l := by omega
theorem l_total {S : ByteArray} (hS : S.size ≤ 1000000) : ∀ (n bg i : Nat) (out : List Int) (bh : Int), 350 * bg + 350 ≤ n + out.length → out.length ≤ 330 → Ev (fun k => comp_Name.l0 k S (i : Int) out (bg : Int) bh) err ∨ ∃ r nx, Lies S bg r i nx ∧ out.length + r.size ≤ 255 := by
  intro n
  induction n with
  | zero => intro bg i out bh h h2; omega
  | succ n ih =>
    intro bg i out bh h h2
    by_cases ho : 255 ≤ out.length
    · exact .inl (l_full ho)
    by_cases hi : S.size ≤ i
    · exact .inl (l_end (by omega))
    have hb := bt_is S i
    have r0 := bt_nonneg S i
    have r1 := bt_le S i
    obtain ⟨b, eb⟩ : ∃ b : Nat, bt S i = (b : Int) := ⟨(bt S i).toNat, by omega⟩
    rw [eb] at hb r0 r1
    by_cases hz : b = 0
    · exact .inr ⟨root, i + 1, .fin bg i (by omega) (by rw [eb, hz]; rfl), by have : root.size = 1 := rfl; omega⟩
    by_cases h63 : b ≤ 63
    · by_cases hf : i + 1 + b ≤ S.size
      · have z : (S.extract i (i + 1 + b)).size = 1 + b := by rw [ByteArray.size_extract]; omega
        have e : ((i : Int) + 1 + (b : Int)) = ((i + 1 + b : Nat) : Int) := by omega
        rcases ih bg (i + 1 + b) (out ++ bytesOf (S.extract i (i + 1 + b))) bh (by rw [List.length_append, bytesOf_length, z]; omega) (by rw [List.length_append, bytesOf_length, z]; omega) with k | ⟨r, nx, k, hk⟩
        · refine .inl (l_lab (b := (b : Int)) hS (by omega) (by omega) hb (by omega) (by omega) (by omega) ?_)
          rw [e]
          exact k
        · rw [List.length_append, bytesOf_length, z] at hk
          refine .inr ⟨_, nx, .lab bg i b r nx eb (by omega) h63 hf k, ?_⟩
          rw [ByteArray.size_append, z]; omega
      · exact .inl (l_short hS (by omega) (by omega) (by omega) hb (by omega) (by omega) (by omega))
    · by_cases h192 : b < 192 ∨ S.size ≤ i + 1
      · exact .inl (l_bad hS (by omega) (by omega) (by omega) hb (by omega) (by omega))
      · have hc := bt_is S (i + 1)
        have s0 := bt_nonneg S (i + 1)
        have s1 := bt_le S (i + 1)
        obtain ⟨c, ec⟩ : ∃ c : Nat, bt S (i + 1) = (c : Int) := ⟨(bt S (i + 1)).toNat, by omega⟩
        rw [ec] at hc s0 s1
        have e1 : ((i + 1 : Nat) : Int) = (i : Int) + 1 := by omega
        rw [e1] at hc
        obtain ⟨tg, htg⟩ : ∃ tg : Nat, tg = (b - 192) * 256 + c := ⟨_, rfl⟩
        have htg2 : (tg : Int) = ((b : Int) - 192) * 256 + (c : Int) := by omega
        by_cases hto : bg ≤ tg
        · exact .inl (l_ptr hS (by omega) (by omega) (by omega) hb (by omega) hc (by omega))
        · rcases ih tg tg out (if bh < 0 then (i : Int) + 2 else bh) (meas h (by omega)) h2 with k | ⟨r, nx, k, hk⟩
          · exact .inl (l_jump hS (by omega) (by omega) (by omega) hb (by omega) hc htg2 (by omega) k)
          · exact .inr ⟨r, i + 2, .ptr bg i b c tg r nx eb ec (by omega) htg (by omega) (by omega) k, hk⟩
theorem lies_may {S : ByteArray} {bg : Nat} {r : ByteArray} {i nx : Nat} (h : Lies S bg r i nx) (hr : r.size ≤ 255) : nameB r = true := by
  induction h with
  | fin bg i h h0 => decide +kernel
  | lab bg i k r nx hb h0 h1 h _ ih =>
    have z : (S.extract i (i + 1 + k)).size = k + 1 := by rw [ByteArray.size_extract]; omega
    rw [ByteArray.size_append, z] at hr
    refine (label_ahead _ _ k h0 h1 z ?_ (ih (by omega)) (by omega)).1
    rw [bt_data, ext_list, List.getD_eq_getElem?_getD, List.getElem?_drop, List.getElem?_take_of_lt (by omega), Nat.add_zero, ← List.getD_eq_getElem?_getD, ← bt_data]
    exact hb
  | ptr _ _ _ _ _ _ _ _ _ _ _ _ _ _ ih => exact ih hr
theorem lies_next {S : ByteArray} {bg : Nat} {r : ByteArray} {i nx : Nat} (h : Lies S bg r i nx) : i < nx ∧ nx ≤ S.size := by
  induction h with
  | fin bg i h h0 => omega
  | lab bg i k r nx hb h0 h1 h _ ih => omega
  | ptr bg i b c tg r nx hb hc h0 ht hlt h _ _ => omega
/-- A name at a place: none, or one that is read there whatever stands behind. -/
theorem name_cases {S : ByteArray} (hS : S.size ≤ 1000000) (i : Nat) : Ev (fun k => comp_Name.f k S (i : Int)) err ∨ ∃ r nx, nameB r = true ∧ i < nx ∧ nx ≤ S.size ∧ ∀ U : ByteArray, (S ++ U).size ≤ 1000000 → Ev (fun k => comp_Name.f k (S ++ U) (i : Int)) (r, (nx : Int), 0) := by
  rcases l_total hS (350 * i + 350) i i [] (-1) (by simp) (by simp) with k | ⟨r, nx, k, hk⟩
  · exact .inl (f_at k)
  · have hk : r.size ≤ 255 := by simpa using hk
    exact .inr ⟨r, nx, lies_may k hk, (lies_next k).1, (lies_next k).2, fun U hU => (k.more U).name hU hk⟩
/-! ### Names, data -/
def NamesAt (S : ByteArray) (i : Nat) (many : Int) : Prop := Ev (fun k => comp_names.f k S (i : Int) many) err ∨ ∃ r nx, r.size ≤ 510 ∧ i < nx ∧ nx ≤ S.size ∧ ∀ U : ByteArray, (S ++ U).size ≤ 1000000 → Ev (fun k => comp_names.f k (S ++ U) (i : Int) many) (r, ((nx : Nat) : Int), 0)
theorem names_cases1 {S : ByteArray} (hS : S.size ≤ 1000000) (i : Nat) : NamesAt S i 1 := by
  rcases name_cases hS i with h | ⟨r, nx, hr, h1, h2, h⟩
  · refine .inl ?_
    show Ev (fun k => comp_names.l0 k S (i : Int) (⟨#[]⟩ : ByteArray) 1 0) _
    exact Ev.step (fun k => by rw [comp_names.l0]) (Ev.pos (by decide) (Ev.bind h (Ev.neg (by show ¬ ((500 : Int) = 0); decide) (Ev.now _))))
  · have := name_size hr
    exact .inr ⟨r, nx, by omega, h1, h2, fun U hU => names_1 (h U hU) this⟩
theorem names_cases2 {S : ByteArray} (hS : S.size ≤ 1000000) (i : Nat) : NamesAt S i 2 := by
  rcases name_cases hS i with h | ⟨r, nx, hr, h1, h2, h⟩
  · refine .inl ?_
    show Ev (fun k => comp_names.l0 k S (i : Int) (⟨#[]⟩ : ByteArray) 2 0) _
    exact Ev.step (fun k => by rw [comp_names.l0]) (Ev.pos (by decide) (Ev.bind h (Ev.neg (by show ¬ ((500 : Int) = 0); decide) (Ev.now _))))
  · have hz := name_size hr
    rcases name_cases hS nx with k | ⟨r2, nx2, hr2, k1, k2, k⟩
    · refine .inl ?_
      have h := h ⟨#[]⟩ (by rw [show S ++ (⟨#[]⟩ : ByteArray) = S from ByteArray.append_empty]; exact hS)
      rw [show S ++ (⟨#[]⟩ : ByteArray) = S from ByteArray.append_empty] at h
      show Ev (fun k => comp_names.l0 k S (i : Int) (⟨#[]⟩ : ByteArray) 2 0) _
      refine Ev.step (fun k => by rw [comp_names.l0]) (Ev.pos (by decide) (Ev.bind h ?_))
      refine Ev.pos rfl (Ev.pos (by show 0 + r.size ≤ 9223372036854775807; omega) ?_)
      exact Ev.step (fun k => by rw [comp_names.l0]) (Ev.pos (by rw [Pu.w64 (by decide) (by decide)]; decide) (Ev.bind k (Ev.neg (by show ¬ ((500 : Int) = 0); decide) (Ev.now _))))
    · have hz2 := name_size hr2
      exact .inr ⟨r ++ r2, nx2, by rw [ByteArray.size_append]; omega, by omega, k2, fun U hU => names_2 (h U hU) (k U hU) hz hz2⟩
abbrev no : ByteArray × Int := ((⟨#[]⟩ : ByteArray), 500)
/-- Data at a place: none, or some that is read whatever stands behind. -/
def DataAt (S : ByteArray) (i z : Nat) (t : Int) : Prop :=
  Ev (fun k => comp_Data.f k S (i : Int) (z : Int) t) no ∨ ∃ d, Rd.mayD t d = true ∧ i + z ≤ S.size ∧ ∀ U : ByteArray, (S ++ U).size ≤ 1000000 → Ev (fun k => comp_Data.f k (S ++ U) (i : Int) (z : Int) t) (d, 0)
theorem data_out {s : ByteArray} {i z t : Int} (hs : s.size ≤ 1000000) (h0 : 0 ≤ i) (h1 : 0 ≤ z) (h2 : (s.size : Int) < i + z) : Ev (fun k => comp_Data.f k s i z t) no := by
  refine Ev.neg (by omega) (Ev.neg (by omega) ?_)
  by_cases h : i > (s.size : Int)
  · exact Ev.pos h (Ev.step (fun k => by rw [comp_Data.j0]) (Ev.pos rfl (Ev.now _)))
  · refine Ev.neg h ?_
    rw [Pu.w64 (x := (s.size : Int) - i) (by omega) (by omega), decide_eq_true (show z > (s.size : Int) - i by omega)]
    exact Ev.step (fun k => by rw [comp_Data.j0]) (Ev.pos rfl (Ev.now _))
theorem data_plain_no {s : ByteArray} {i z : Nat} {t : Int} (hs : s.size ≤ 1000000) (h2 : i + z ≤ s.size) (hsh : Ev (fun k => comp_shape.f k t) (0, 0, 0)) (hm : Rd.mayD t (s.extract i (i + z)) = false) :
    Ev (fun k => comp_Data.f k s (i : Int) (z : Int) t) no := by
  refine data_in hs (by omega) (by omega) (by omega) ?_
  refine Ev.step (fun k => by rw [comp_Data.j0]) (Ev.neg (by decide) ?_)
  rw [Pu.w64 (x := (i : Int) + (z : Int)) (by omega) (by omega)]
  refine Ev.pos (by omega) (Ev.pos (by omega) (Ev.pos (by omega) (Ev.bind hsh (Ev.neg (by decide) (Ev.call (may_eq _ _ ?_) ?_)))))
  · rw [ByteArray.size_extract]; omega
  rw [show ((i : Int) + (z : Int)).toNat = i + z by omega, Int.toNat_natCast, hm]
  exact Ev.neg (by decide) (Ev.now _)
theorem data_names_no {s ns : ByteArray} {i z a more : Nat} {q e many t : Int} (hs : s.size ≤ 1000000) (hn : ns.size ≤ 600) (h2 : i + z ≤ s.size) (ha : a ≤ 100) (hmo : more ≤ 100) (hsh : Ev (fun k => comp_shape.f k t) ((a : Int), many, (more : Int))) (hmn : 0 < many)
    (hq : Ev (fun k => comp_names.f k s ((i + a : Nat) : Int) many) (ns, q, e)) (hne : e = 0 → ∃ q' : Nat, q = (q' : Int) ∧ q' ≤ s.size ∧ (q' + more = i + z → a + more ≤ z → Rd.mayD t (s.extract i (i + a) ++ ns ++ s.extract q' (i + z)) = false)) :
    Ev (fun k => comp_Data.f k s (i : Int) (z : Int) t) no := by
  refine data_in hs (by omega) (by omega) (by omega) ?_
  refine Ev.step (fun k => by rw [comp_Data.j0]) (Ev.neg (by decide) ?_)
  rw [Pu.w64 (x := (i : Int) + (z : Int)) (by omega) (by omega)]
  refine Ev.pos (by omega) (Ev.pos (by omega) (Ev.pos (by omega) (Ev.bind hsh (Ev.pos (by show many > 0; omega) ?_))))
  dsimp only
  rw [Pu.w64 (x := (a : Int) + (more : Int)) (by omega) (by omega), Pu.w64 (x := (i : Int) + (a : Int)) (by omega) (by omega), show (i : Int) + (a : Int) = ((i + a : Nat) : Int) by omega]
  by_cases ham : a + more ≤ z
  · refine Ev.neg (by omega) (Ev.bind hq ?_)
    dsimp only
    by_cases he : e = 0
    · obtain ⟨q', rfl, hql, hm⟩ := hne he
      refine Ev.pos he ?_
      rw [Pu.w64 (x := (i : Int) + (z : Int) - (more : Int)) (by omega) (by omega)]
      by_cases hqz : q' + more = i + z
      · rw [show ((q' : Int) != (i : Int) + (z : Int) - (more : Int)) = false by simp; omega]
        refine Ev.step (fun k => by rw [comp_Data.j1]) (Ev.neg (by decide) ?_)
        rw [Pu.w64 (x := (i : Int) + (a : Int)) (by omega) (by omega), show (i : Int) + (a : Int) = ((i + a : Nat) : Int) by omega, show (i : Int) + (z : Int) = ((i + z : Nat) : Int) by omega]
        simp only [Int.toNat_natCast]
        refine Ev.pos (by omega) (Ev.pos (by omega) (Ev.pos (by omega) (Ev.pos ?_ (Ev.pos (by omega) (Ev.pos (by omega) (Ev.pos (by omega) (Ev.pos ?_ (Ev.call (may_eq _ _ ?_) ?_))))))))
        · rw [ByteArray.size_extract]; omega
        · rw [ByteArray.size_append, ByteArray.size_extract, ByteArray.size_extract]; omega
        · rw [ByteArray.size_append, ByteArray.size_append, ByteArray.size_extract, ByteArray.size_extract]; omega
        rw [hm hqz ham]
        exact Ev.neg (by decide) (Ev.now _)
      · rw [show ((q' : Int) != (i : Int) + (z : Int) - (more : Int)) = true by simp; omega]
        exact Ev.step (fun k => by rw [comp_Data.j1]) (Ev.pos rfl (Ev.now _))
    · refine Ev.neg he ?_
      exact Ev.step (fun k => by rw [comp_Data.j1]) (Ev.pos rfl (Ev.now _))
  · exact Ev.pos (by omega) (Ev.now _)
theorem app_nil (s : ByteArray) : s ++ (⟨#[]⟩ : ByteArray) = s := ByteArray.append_empty
theorem data_some {S : ByteArray} (hS : S.size ≤ 1000000) (i z a more : Nat) (many t : Int) (h2 : i + z ≤ S.size) (ha : a ≤ 100) (hmo : more ≤ 100) (hsh : Ev (fun k => comp_shape.f k t) ((a : Int), many, (more : Int))) (hmn : 0 < many)
    (hn : NamesAt S (i + a) many) : DataAt S i z t := by
  rcases hn with h | ⟨r, nx, hr, h3, h4, h⟩
  · exact .inl (data_names_no hS (by decide) h2 ha hmo hsh hmn h (fun e => absurd e (by decide)))
  · by_cases hq : nx + more = i + z ∧ a + more ≤ z ∧ Rd.mayD t (S.extract i (i + a) ++ r ++ S.extract nx (i + z)) = true
    · refine .inr ⟨_, hq.2.2, h2, fun U hU => ?_⟩
      have zz : (S ++ U).size = S.size + U.size := ByteArray.size_append
      have H := data_names (s := S ++ U) (i := i) (z := z) (a := a) (more := more) (q := nx) hU (by omega) (by omega) hsh hmn hq.2.1 (h U hU) hq.1
      rw [ext_left _ _ _ _ (by omega), ext_left _ _ _ _ (by omega)] at H
      exact H hq.2.2
    · have h0 := h ⟨#[]⟩ (by rw [app_nil]; exact hS)
      rw [app_nil] at h0
      refine .inl (data_names_no hS (by omega) h2 ha hmo hsh hmn h0 (fun _ => ⟨nx, rfl, h4, fun k1 k2 => ?_⟩))
      cases hm : Rd.mayD t (S.extract i (i + a) ++ r ++ S.extract nx (i + z)) with
      | true => exact absurd ⟨k1, k2, hm⟩ hq
      | false => rfl
theorem data_cases {S : ByteArray} (hS : S.size ≤ 1000000) (i z : Nat) (t : Int) : DataAt S i z t := by
  by_cases h2 : i + z ≤ S.size
  · by_cases k1 : t = 2 ∨ t = 5 ∨ t = 12
    · exact data_some hS i z 0 0 1 t h2 (by decide) (by decide) (shape_1 k1) (by decide) (names_cases1 hS _)
    · by_cases k2 : t = 15
      · subst k2; exact data_some hS i z 2 0 1 15 h2 (by decide) (by decide) shape_15 (by decide) (names_cases1 hS _)
      · by_cases k3 : t = 6
        · subst k3; exact data_some hS i z 0 20 2 6 h2 (by decide) (by decide) shape_6 (by decide) (names_cases2 hS _)
        · have hsh := shape_0 (fun e => k1 (.inl e)) (fun e => k1 (.inr (.inl e))) (fun e => k1 (.inr (.inr e))) k2 k3
          cases hm : Rd.mayD t (S.extract i (i + z)) with
          | false => exact .inl (data_plain_no hS h2 hsh hm)
          | true =>
            refine .inr ⟨_, hm, h2, fun U hU => ?_⟩
            have zz : (S ++ U).size = S.size + U.size := ByteArray.size_append
            have H := data_plain (s := S ++ U) (i := i) (z := z) hU (by omega) hsh
            rw [ext_left _ _ _ _ (by omega)] at H
            exact H hm
  · exact .inl (data_out hS (by omega) (by omega) (by omega))
/-! ### A question, a record -/
theorem num_bad {r : Rs} {x : Int × Int × Int} (h : r.bad = true ∨ x.2.2 ≠ 0) : numV r x = (0, ⟨r.at_, true⟩) := by
  unfold numV
  rw [if_pos]
  rcases h with h | h
  · rw [h]; rfl
  · simp [h]
theorem num16_no {s : ByteArray} {i : Nat} (h : ¬ i + 2 ≤ s.size) (b : Bool) : numV ⟨(i : Int), b⟩ (u16V s (i : Int)) = (0, ⟨(i : Int), true⟩) := by
  refine num_bad (.inr ?_)
  unfold u16V
  rw [if_neg (show ¬ (0 ≤ (i : Int) ∧ (i : Int) + 2 ≤ (s.size : Int)) by omega)]
  decide
theorem num32_no {s : ByteArray} {i : Nat} (h : ¬ i + 4 ≤ s.size) (b : Bool) : numV ⟨(i : Int), b⟩ (u32V s (i : Int)) = (0, ⟨(i : Int), true⟩) := by
  refine num_bad (.inr ?_)
  unfold u32V
  rw [if_neg (show ¬ (0 ≤ (i : Int) ∧ (i : Int) + 4 ≤ (s.size : Int)) by omega)]
  decide
/-- A question at a place: a bad one, or one that is read whatever stands behind. -/
theorem quest_cases {S : ByteArray} (hS : S.size ≤ 1000000) (i : Nat) : (∃ (q : Qn) (j : Nat), Ev (fun k => questV k S ⟨(i : Int), false⟩) (q, ⟨(j : Int), true⟩)) ∨
    ∃ (q : Qn) (nx : Nat), qMay q = true ∧ nx ≤ S.size ∧ ∀ U : ByteArray, (S ++ U).size ≤ 1000000 → Ev (fun k => questV k (S ++ U) ⟨(i : Int), false⟩) (q, ⟨(nx : Int), false⟩) := by
  rcases name_cases hS i with h | ⟨r, nx, hr, h1, h2, h⟩
  · refine .inl ⟨zQ, i, ?_⟩
    unfold questV
    exact Ev.bind h (Ev.pos (by simp) (Ev.now _))
  · have h0 := h ⟨#[]⟩ (by rw [app_nil]; exact hS)
    rw [app_nil] at h0
    by_cases c4 : nx + 4 ≤ S.size
    · by_cases ht : be2 S nx = 0
      · refine .inl ⟨⟨r, be2 S nx, be2 S (nx + 2)⟩, nx + 4, ?_⟩
        have := quest_ev h0 c4
        rw [show (be2 S nx == 0) = true by simpa using ht] at this
        exact this
      · have b1 := be2_bd S nx
        have b2 := be2_bd S (nx + 2)
        refine .inr ⟨⟨r, be2 S nx, be2 S (nx + 2)⟩, nx + 4, ?_, c4, fun U hU => ?_⟩
        · unfold qMay
          simp only [Bool.and_eq_true, inB_iff]
          exact ⟨⟨hr, by omega, by omega⟩, by omega, by omega⟩
        · have zz : (S ++ U).size = S.size + U.size := ByteArray.size_append
          have := quest_ev (h U hU) (by omega)
          rw [Hd.be2_left _ _ _ (by omega), Hd.be2_left _ _ _ (by omega), show (be2 S nx == 0) = false by simpa using ht] at this
          exact this
    · refine .inl ?_
      show ∃ (q : Qn) (j : Nat), Ev (fun k => questV k S ⟨(i : Int), false⟩) (q, ⟨(j : Int), true⟩)
      by_cases c2 : nx + 2 ≤ S.size
      · refine ⟨⟨r, be2 S nx, 0⟩, nx + 2, ?_⟩
        unfold questV
        refine Ev.bind h0 (Ev.neg (by simp) (Ev.some _ fun _ => ?_))
        dsimp only
        rw [num16_ok c2]
        dsimp only
        rw [num16_no (i := nx + 2) (by omega)]
        rfl
      · refine ⟨⟨r, 0, 0⟩, nx, ?_⟩
        unfold questV
        refine Ev.bind h0 (Ev.neg (by simp) (Ev.some _ fun _ => ?_))
        dsimp only
        rw [num16_no c2]
        dsimp only
        rw [num_bad (.inl rfl)]
        rfl
/-- A record at a place. -/
theorem rec_cases {S : ByteArray} (hS : S.size ≤ 16000) (i : Nat) : (∃ (q : Rr) (j : Nat), Ev (fun k => recV k S ⟨(i : Int), false⟩) (q, ⟨(j : Int), true⟩)) ∨
    ∃ (q : Rr) (nx : Nat), rMay q = true ∧ nx ≤ S.size ∧ ∀ U : ByteArray, (S ++ U).size ≤ 16000 → Ev (fun k => recV k (S ++ U) ⟨(i : Int), false⟩) (q, ⟨(nx : Int), false⟩) := by
  have hS' : S.size ≤ 1000000 := by omega
  have bad : ∀ (q : Qn) (j : Nat), Ev (fun k => questV k S ⟨(i : Int), false⟩) (q, ⟨(j : Int), true⟩) → ∃ (q : Rr) (j : Nat), Ev (fun k => recV k S ⟨(i : Int), false⟩) (q, ⟨(j : Int), true⟩) := by
    intro q j h
    refine ⟨zR, j, ?_⟩
    have e1 : recN1 S (q, ⟨(j : Int), true⟩) = (0, ⟨(j : Int), true⟩) := num_bad (.inl rfl)
    have e2 : recN2 S (q, ⟨(j : Int), true⟩) = (0, ⟨(j : Int), true⟩) := by
      unfold recN2
      rw [e1]
      exact num_bad (.inl rfl)
    unfold recV
    refine Ev.bind h ?_
    simp only [e1, e2]
    rcases data_cases hS' j 0 q.type with k | ⟨d, _, _, k⟩
    · exact Ev.bind k (Ev.pos (by simp) (Ev.now _))
    · have k0 := k ⟨#[]⟩ (by rw [app_nil]; exact hS')
      rw [app_nil] at k0
      exact Ev.bind k0 (Ev.pos (by simp) (Ev.now _))
  rcases name_cases hS' i with h | ⟨r, nx, hr, h1, h2, h⟩
  · refine .inl (bad zQ i ?_)
    unfold questV
    exact Ev.bind h (Ev.pos (by simp) (Ev.now _))
  · have h0 := h ⟨#[]⟩ (by rw [app_nil]; exact hS')
    rw [app_nil] at h0
    by_cases c4 : nx + 4 ≤ S.size
    · have hq := quest_ev h0 c4
      by_cases ht : be2 S nx = 0
      · rw [show (be2 S nx == 0) = true by simpa using ht] at hq
        exact .inl (bad _ _ hq)
      · rw [show (be2 S nx == 0) = false by simpa using ht] at hq
        by_cases c8 : nx + 4 + 4 ≤ S.size
        · have e1 : recN1 S (⟨r, be2 S nx, be2 S (nx + 2)⟩, ⟨((nx + 4 : Nat) : Int), false⟩) = (be4 S (nx + 4), ⟨((nx + 4 + 4 : Nat) : Int), false⟩) := num32_ok c8
          by_cases c10 : nx + 4 + 4 + 2 ≤ S.size
          · have b8 := be2_bd S (nx + 8)
            obtain ⟨z, hz⟩ : ∃ z : Nat, be2 S (nx + 8) = (z : Int) := ⟨(be2 S (nx + 8)).toNat, by omega⟩
            have e2 : recN2 S (⟨r, be2 S nx, be2 S (nx + 2)⟩, ⟨((nx + 4 : Nat) : Int), false⟩) = ((z : Int), ⟨((nx + 10 : Nat) : Int), false⟩) := by
              unfold recN2
              rw [e1]
              dsimp only
              rw [num16_ok c10, hz]
            rcases data_cases hS' (nx + 10) z (be2 S nx) with k | ⟨d, hd, hzd, k⟩
            · refine .inl ⟨zR, nx + 10, ?_⟩
              unfold recV
              refine Ev.bind hq ?_
              simp only [e1, e2]
              exact Ev.bind k (Ev.pos (by simp) (Ev.now _))
            · have b1 := be2_bd S nx
              have b2 := be2_bd S (nx + 2)
              have b4 := be4_bd S (nx + 4)
              refine .inr ⟨⟨r, be2 S nx, be2 S (nx + 2), be4 S (nx + 4), d⟩, nx + 10 + z, ?_, hzd, fun U hU => ?_⟩
              · unfold rMay
                simp only [Bool.and_eq_true, inB_iff]
                exact ⟨⟨⟨⟨hr, by omega, by omega⟩, by omega, by omega⟩, by omega, by omega⟩, hd⟩
              · have zz : (S ++ U).size = S.size + U.size := ByteArray.size_append
                have l1 : be2 (S ++ U) nx = be2 S nx := Hd.be2_left _ _ _ (by omega)
                have l2 : be2 (S ++ U) (nx + 2) = be2 S (nx + 2) := Hd.be2_left _ _ _ (by omega)
                have l3 : be2 (S ++ U) (nx + 8) = be2 S (nx + 8) := Hd.be2_left _ _ _ (by omega)
                have l4 : be4 (S ++ U) (nx + 4) = be4 S (nx + 4) := be4_left _ _ _ (by omega)
                have := rec_ev (S := S ++ U) (h U (by omega)) (by rw [l1]; exact ht) hU (by rw [l3]; exact hz) (by omega) (by rw [l1]; exact k U (by omega))
                rw [l1, l2, l4] at this
                exact this
          · have e2 : recN2 S (⟨r, be2 S nx, be2 S (nx + 2)⟩, ⟨((nx + 4 : Nat) : Int), false⟩) = (0, ⟨((nx + 4 + 4 : Nat) : Int), true⟩) := by
              unfold recN2
              rw [e1]
              exact num16_no c10 false
            refine .inl ⟨zR, nx + 4 + 4, ?_⟩
            unfold recV
            refine Ev.bind hq ?_
            simp only [e1, e2]
            rcases data_cases hS' (nx + 4 + 4) 0 (be2 S nx) with k | ⟨d, _, _, k⟩
            · exact Ev.bind k (Ev.pos (by simp) (Ev.now _))
            · have k0 := k ⟨#[]⟩ (by rw [app_nil]; exact hS')
              rw [app_nil] at k0
              exact Ev.bind k0 (Ev.pos (by simp) (Ev.now _))
        · have e1 : recN1 S (⟨r, be2 S nx, be2 S (nx + 2)⟩, ⟨((nx + 4 : Nat) : Int), false⟩) = (0, ⟨((nx + 4 : Nat) : Int), true⟩) := num32_no c8 false
          have e2 : recN2 S (⟨r, be2 S nx, be2 S (nx + 2)⟩, ⟨((nx + 4 : Nat) : Int), false⟩) = (0, ⟨((nx + 4 : Nat) : Int), true⟩) := by
            unfold recN2
            rw [e1]
            exact num_bad (.inl rfl)
          refine .inl ⟨zR, nx + 4, ?_⟩
          unfold recV
          refine Ev.bind hq ?_
          simp only [e1, e2]
          rcases data_cases hS' (nx + 4) 0 (be2 S nx) with k | ⟨d, _, _, k⟩
          · exact Ev.bind k (Ev.pos (by simp) (Ev.now _))
          · have k0 := k ⟨#[]⟩ (by rw [app_nil]; exact hS')
            rw [app_nil] at k0
            exact Ev.bind k0 (Ev.pos (by simp) (Ev.now _))
    · rcases quest_cases hS' i with ⟨q, j, k⟩ | ⟨q, nx', hm, hl, k⟩
      · exact .inl (bad q j k)
      · exfalso
        have k0 := k ⟨#[]⟩ (by rw [app_nil]; exact hS')
        rw [app_nil] at k0
        have kb : ∃ (x : Qn) (j : Nat), Ev (fun k => questV k S ⟨(i : Int), false⟩) (x, ⟨(j : Int), true⟩) := by
          by_cases c2 : nx + 2 ≤ S.size
          · refine ⟨⟨r, be2 S nx, 0⟩, nx + 2, ?_⟩
            unfold questV
            refine Ev.bind h0 (Ev.neg (by simp) (Ev.some _ fun _ => ?_))
            dsimp only
            rw [num16_ok c2]
            dsimp only
            rw [num16_no (i := nx + 2) (by omega)]
            rfl
          · refine ⟨⟨r, 0, 0⟩, nx, ?_⟩
            unfold questV
            refine Ev.bind h0 (Ev.neg (by simp) (Ev.some _ fun _ => ?_))
            dsimp only
            rw [num16_no c2]
            dsimp only
            rw [num_bad (.inl rfl)]
            rfl
        obtain ⟨x, j, kb⟩ := kb
        have e := Ev.uniq k0 kb
        injection e with _ e
        injection e with _ e
        exact absurd e (by decide)
/-! ### Lists -/
theorem loopQ_bad {k : Nat} {S : ByteArray} (n : Nat) {r : Rs} (acc : List Qn) (h : r.bad = true) : loopQ k S n r acc = some (acc, r) := by
  cases n with
  | zero => rfl
  | succ n => unfold loopQ; rw [if_pos h]
theorem loopR_bad {k : Nat} {S : ByteArray} (n : Nat) {r : Rs} (acc : List Rr) (h : r.bad = true) : loopR k S n r acc = some (acc, r) := by
  cases n with
  | zero => rfl
  | succ n => unfold loopR; rw [if_pos h]
theorem loopQ_cases {S : ByteArray} (hS : S.size ≤ 16000) : ∀ (n i : Nat) (acc : List Qn), i ≤ S.size → (∃ (o : List Qn) (j : Nat), Ev (fun k => loopQ k S n ⟨(i : Int), false⟩ acc) (o, ⟨(j : Int), true⟩)) ∨
    ∃ (o : List Qn) (nx : Nat), o.length = n ∧ (∀ q ∈ o, qMay q = true) ∧ nx ≤ S.size ∧ ∀ U : ByteArray, (S ++ U).size ≤ 16000 → Ev (fun k => loopQ k (S ++ U) n ⟨(i : Int), false⟩ acc) (acc ++ o, ⟨(nx : Int), false⟩) := by
  intro n
  induction n with
  | zero => intro i acc hi; exact .inr ⟨[], i, rfl, by simp, hi, fun U hU => by rw [List.append_nil]; exact Ev.now _⟩
  | succ n ih =>
    intro i acc hi
    rcases quest_cases (S := S) (by omega) i with ⟨q, j, h⟩ | ⟨q, nx, hm, hl, h⟩
    · refine .inl ⟨acc ++ [q], j, ?_⟩
      show Ev (fun k => if (false : Bool) = true then _ else _) _
      exact Ev.neg (by decide) (Ev.bind h (Ev.some _ fun k => loopQ_bad n _ rfl))
    · rcases ih nx (acc ++ [q]) hl with ⟨o, j, k⟩ | ⟨o, nx2, ho, hm2, hl2, k⟩
      · refine .inl ⟨o, j, ?_⟩
        have h0 := h ⟨#[]⟩ (by rw [app_nil]; omega)
        rw [app_nil] at h0
        show Ev (fun k => if (false : Bool) = true then _ else _) _
        exact Ev.neg (by decide) (Ev.bind h0 k)
      · refine .inr ⟨q :: o, nx2, by simp [ho], ?_, hl2, fun U hU => ?_⟩
        · intro x hx
          rcases List.mem_cons.1 hx with rfl | hx
          · exact hm
          · exact hm2 x hx
        · have := k U hU
          rw [List.append_assoc, List.singleton_append] at this
          show Ev (fun k => if (false : Bool) = true then _ else _) _
          exact Ev.neg (by decide) (Ev.bind (h U (by omega)) this)
theorem loopR_cases {S : ByteArray} (hS : S.size ≤ 16000) : ∀ (n i : Nat) (acc : List Rr), i ≤ S.size → (∃ (o : List Rr) (j : Nat), Ev (fun k => loopR k S n ⟨(i : Int), false⟩ acc) (o, ⟨(j : Int), true⟩)) ∨
    ∃ (o : List Rr) (nx : Nat), o.length = n ∧ (∀ q ∈ o, rMay q = true) ∧ nx ≤ S.size ∧ ∀ U : ByteArray, (S ++ U).size ≤ 16000 → Ev (fun k => loopR k (S ++ U) n ⟨(i : Int), false⟩ acc) (acc ++ o, ⟨(nx : Int), false⟩) := by
  intro n
  induction n with
  | zero => intro i acc hi; exact .inr ⟨[], i, rfl, by simp, hi, fun U hU => by rw [List.append_nil]; exact Ev.now _⟩
  | succ n ih =>
    intro i acc hi
    rcases rec_cases (S := S) hS i with ⟨q, j, h⟩ | ⟨q, nx, hm, hl, h⟩
    · refine .inl ⟨acc ++ [q], j, ?_⟩
      show Ev (fun k => if (false : Bool) = true then _ else _) _
      exact Ev.neg (by decide) (Ev.bind h (Ev.some _ fun k => loopR_bad n _ rfl))
    · rcases ih nx (acc ++ [q]) hl with ⟨o, j, k⟩ | ⟨o, nx2, ho, hm2, hl2, k⟩
      · refine .inl ⟨o, j, ?_⟩
        have h0 := h ⟨#[]⟩ (by rw [app_nil]; omega)
        rw [app_nil] at h0
        show Ev (fun k => if (false : Bool) = true then _ else _) _
        exact Ev.neg (by decide) (Ev.bind h0 k)
      · refine .inr ⟨q :: o, nx2, by simp [ho], ?_, hl2, fun U hU => ?_⟩
        · intro x hx
          rcases List.mem_cons.1 hx with rfl | hx
          · exact hm
          · exact hm2 x hx
        · have := k U hU
          rw [List.append_assoc, List.singleton_append] at this
          show Ev (fun k => if (false : Bool) = true then _ else _) _
          exact Ev.neg (by decide) (Ev.bind (h U hU) this)
/-- So many questions from a place on. -/
theorem listQ_cases {S : ByteArray} (hS : S.size ≤ 16000) (n i : Nat) (hi : i ≤ S.size) : (∃ (o : List Qn) (j : Nat), Ev (fun k => listQ k S n ⟨(i : Int), false⟩) (o, ⟨(j : Int), true⟩)) ∨
    ∃ (o : List Qn) (nx : Nat), o.length = n ∧ n ≤ 64 ∧ (∀ q ∈ o, qMay q = true) ∧ nx ≤ S.size ∧ ∀ U : ByteArray, (S ++ U).size ≤ 16000 → Ev (fun k => listQ k (S ++ U) n ⟨(i : Int), false⟩) (o, ⟨(nx : Int), false⟩) := by
  unfold listQ
  by_cases hn : 64 < n
  · rw [show (false || decide (64 < n)) = true by simp; omega]
    exact .inl ⟨[], i, Ev.some _ fun k => loopQ_bad n _ rfl⟩
  · rw [show (false || decide (64 < n)) = false by simp; omega]
    rcases loopQ_cases hS n i [] hi with h | ⟨o, nx, ho, hm, hl, h⟩
    · exact .inl h
    · exact .inr ⟨o, nx, ho, by omega, hm, hl, h⟩
theorem listR_cases {S : ByteArray} (hS : S.size ≤ 16000) (n i : Nat) (hi : i ≤ S.size) : (∃ (o : List Rr) (j : Nat), Ev (fun k => listR k S n ⟨(i : Int), false⟩) (o, ⟨(j : Int), true⟩)) ∨
    ∃ (o : List Rr) (nx : Nat), o.length = n ∧ n ≤ 64 ∧ (∀ q ∈ o, rMay q = true) ∧ nx ≤ S.size ∧ ∀ U : ByteArray, (S ++ U).size ≤ 16000 → Ev (fun k => listR k (S ++ U) n ⟨(i : Int), false⟩) (o, ⟨(nx : Int), false⟩) := by
  unfold listR
  by_cases hn : 64 < n
  · rw [show (false || decide (64 < n)) = true by simp; omega]
    exact .inl ⟨[], i, Ev.some _ fun k => loopR_bad n _ rfl⟩
  · rw [show (false || decide (64 < n)) = false by simp; omega]
    rcases loopR_cases hS n i [] hi with h | ⟨o, nx, ho, hm, hl, h⟩
    · exact .inl h
    · exact .inr ⟨o, nx, ho, by omega, hm, hl, h⟩
theorem listR_badstart {k : Nat} {S : ByteArray} (n : Nat) (j : Int) : listR k S n ⟨j, true⟩ = some ([], ⟨j, true⟩) := by
  unfold listR
  exact loopR_bad n [] rfl
end Go.Proofs.Ytjklgdpffmaamaa.Wm

namespace Go.Proofs.Ytjklgdpffmaamaa.Wm
open Go.RowKit Go.PlainAid Go.Proofs.Ytjklgdpffmaamaa.Base Go.Proofs.Ytjklgdpffmaamaa.Oct Go.Proofs.Ytjklgdpffmaamaa.Nm Go.Proofs.Ytjklgdpffmaamaa.Wr Go.Proofs.Ytjklgdpffmaamaa.PCm Go.Proofs.Ytjklgdpffmaamaa.CompS Go.Proofs.Ytjklgdpffmaamaa.Pu
open Go.Proofs.YtjklgdpffmaamaaW.PrintWords (Ev bytesOf bytesOf_length LeO)
set_option linter.unusedVariables false
/-- What was read: an error, or a message that may be written. -/
def Tells (s : ByteArray) (g : Got) : Prop :=
  (g = got0 (if 4096 < s.size then 701 else 700)) ∨
  (g.e = 0 ∧ s.size ≤ 4096 ∧ putOk (msgOf g.h g.qs g.an g.ns g.ar) = true ∧ ∀ U : ByteArray, 0 < U.size → (s ++ U).size ≤ 4096 → Ev (fun k => getV k (s ++ U)) (got0 700))
theorem getV_cases (s : ByteArray) : ∃ g : Got, Ev (fun k => getV k s) g ∧ Tells s g := by
  by_cases h4 : 4096 < s.size
  · exact ⟨got0 701, Ev.pos h4 (Ev.now _), .inl (by rw [if_pos h4])⟩
  by_cases h12 : s.size < 12
  · exact ⟨got0 700, Ev.neg h4 (Ev.pos h12 (Ev.now _)), .inl (by rw [if_neg h4])⟩
  have hS : s.size ≤ 16000 := by omega
  have bad : Ev (fun k => getV k s) (got0 700) → ∃ g : Got, Ev (fun k => getV k s) g ∧ Tells s g := fun h => ⟨_, h, .inl (by rw [if_neg h4])⟩
  have d4 := be2_bd s 4
  have d6 := be2_bd s 6
  have d8 := be2_bd s 8
  have d10 := be2_bd s 10
  rcases listQ_cases hS (be2 s 4).toNat 12 (by omega) with ⟨o, j, h⟩ | ⟨oq, x1, ho1, hn1, hm1, hl1, h1⟩
  · refine bad (Ev.neg h4 (Ev.neg h12 (Ev.bind h ?_)))
    exact Ev.bind (Ev.some _ fun k => listR_badstart _ _) (Ev.bind (Ev.some _ fun k => listR_badstart _ _) (Ev.bind (Ev.some _ fun k => listR_badstart _ _) (Ev.pos rfl (Ev.now _))))
  have k1 := h1 ⟨#[]⟩ (by rw [app_nil]; exact hS)
  rw [app_nil] at k1
  rcases listR_cases hS (be2 s 6).toNat x1 hl1 with ⟨o, j, h⟩ | ⟨oa, x2, ho2, hn2, hm2, hl2, h2⟩
  · refine bad (Ev.neg h4 (Ev.neg h12 (Ev.bind k1 (Ev.bind h ?_))))
    exact Ev.bind (Ev.some _ fun k => listR_badstart _ _) (Ev.bind (Ev.some _ fun k => listR_badstart _ _) (Ev.pos rfl (Ev.now _)))
  have k2 := h2 ⟨#[]⟩ (by rw [app_nil]; exact hS)
  rw [app_nil] at k2
  rcases listR_cases hS (be2 s 8).toNat x2 hl2 with ⟨o, j, h⟩ | ⟨on, x3, ho3, hn3, hm3, hl3, h3⟩
  · refine bad (Ev.neg h4 (Ev.neg h12 (Ev.bind k1 (Ev.bind k2 (Ev.bind h ?_)))))
    exact Ev.bind (Ev.some _ fun k => listR_badstart _ _) (Ev.pos rfl (Ev.now _))
  have k3 := h3 ⟨#[]⟩ (by rw [app_nil]; exact hS)
  rw [app_nil] at k3
  rcases listR_cases hS (be2 s 10).toNat x3 hl3 with ⟨o, j, h⟩ | ⟨orr, x4, ho4, hn4, hm4, hl4, h4'⟩
  · refine bad (Ev.neg h4 (Ev.neg h12 (Ev.bind k1 (Ev.bind k2 (Ev.bind k3 (Ev.bind h ?_))))))
    exact Ev.pos rfl (Ev.now _)
  have k4 := h4' ⟨#[]⟩ (by rw [app_nil]; exact hS)
  rw [app_nil] at k4
  by_cases hx : x4 = s.size
  · refine ⟨⟨Hd.getH s, oq, oa, on, orr, 0⟩, Ev.neg h4 (Ev.neg h12 (Ev.bind k1 (Ev.bind k2 (Ev.bind k3 (Ev.bind k4 (Ev.neg (by simp; omega) (Ev.now _))))))), .inr ⟨rfl, by omega, ?_, fun U hU hz => ?_⟩⟩
    · unfold putOk hOk
      rw [Bool.and_eq_true]
      constructor
      · have := Hd.getH_may s
        show Hd.mayB (Hd.getH s) (oq.length : Int) (oa.length : Int) (on.length : Int) (orr.length : Int) = true
        rw [show (oq.length : Int) = be2 s 4 by omega, show (oa.length : Int) = be2 s 6 by omega, show (on.length : Int) = be2 s 8 by omega, show (orr.length : Int) = be2 s 10 by omega]
        exact this
      · show fitsB oq oa on orr = true
        unfold fitsB
        simp only [Bool.and_eq_true, List.all_eq_true, decide_eq_true_eq]
        exact ⟨⟨⟨⟨by omega, hm1⟩, by omega, hm2⟩, by omega, hm3⟩, by omega, hm4⟩
    · have zz : (s ++ U).size = s.size + U.size := ByteArray.size_append
      have z' : (s ++ U).size ≤ 16000 := by omega
      refine Ev.neg (by omega) (Ev.neg (by omega) ?_)
      rw [Hd.be2_left _ _ _ (by omega), Hd.be2_left _ _ _ (by omega), Hd.be2_left _ _ _ (by omega), Hd.be2_left _ _ _ (by omega)]
      exact Ev.bind (h1 U z') (Ev.bind (h2 U z') (Ev.bind (h3 U z') (Ev.bind (h4' U z') (Ev.pos (by simp; omega) (Ev.now _)))))
  · exact bad (Ev.neg h4 (Ev.neg h12 (Ev.bind k1 (Ev.bind k2 (Ev.bind k3 (Ev.bind k4 (Ev.pos (by simp; omega) (Ev.now _))))))))
/-- A message that was written and cut is none. -/
theorem get_cut {m : MsgV} (hok : putOk m = true) (hl : (putEnd m).lg = false) (j : Nat) (hj : j < (putEnd m).S.size) : Ev (fun k => getV k ((putEnd m).S.extract 0 j)) (got0 700) := by
  have hz := (put_S hok hl).2.2.2
  have zj : ((putEnd m).S.extract 0 j).size = j := by rw [ByteArray.size_extract]; omega
  have e := ext_join (putEnd m).S 0 j (putEnd m).S.size (by omega) (by omega)
  rw [ext0] at e
  obtain ⟨g, h, hg | ⟨_, _, _, hg⟩⟩ := getV_cases ((putEnd m).S.extract 0 j)
  · rw [hg, if_neg (by omega)] at h; exact h
  · exfalso
    have a := hg ((putEnd m).S.extract j (putEnd m).S.size) (by rw [ByteArray.size_extract]; omega) (by rw [e]; exact hz)
    rw [e] at a
    have b := get_put hok hl ⟨#[]⟩ (by rw [app_nil]; exact hz)
    rw [app_nil, if_pos (show (⟨#[]⟩ : ByteArray).size = 0 from rfl)] at b
    have := congrArg Got.e (Ev.uniq a b)
    exact absurd this (show ¬ ((700 : Int) = 0) by decide)
end Go.Proofs.Ytjklgdpffmaamaa.Wm

namespace Go.Proofs.Ytjklgdpffmaamaa.WirePWb
open Go.RowKit Go.Proofs.Ytjklgdpffmaamaa.PWb Go.Proofs.Ytjklgdpffmaamaa.Pu Go.Proofs.Ytjklgdpffmaamaa.Wm Go.Proofs.Ytjklgdpffmaamaa.Oct Go.Proofs.Ytjklgdpffmaamaa.Nm Go.Proofs.Ytjklgdpffmaamaa.Wr
open Go.Proofs.YtjklgdpffmaamaaW.PrintWords (Ev LeO)
set_option linter.unusedVariables false
theorem sameQ_at (l : List S40) (hl : l.length ≤ 1000000) : ∀ n i, l.length - i ≤ n → i ≤ l.length → Ev (fun k => wimplelaw0_SameQuestions.l0 k l l (i : Int)) true := by
  intro n
  induction n with
  | zero => intro i h h2; exact Ev.step (fun k => by rw [wimplelaw0_SameQuestions.l0]) (Ev.neg (by omega) (Ev.now _))
  | succ n ih =>
    intro i h h2
    by_cases hi : i < l.length
    · refine Ev.step (fun k => by rw [wimplelaw0_SameQuestions.l0]) (Ev.pos (by omega) (Ev.pos (by omega) (Ev.pos (by omega) (Ev.neg (by simp) ?_))))
      rw [Pu.w64 (by omega) (by omega), show (i : Int) + 1 = ((i + 1 : Nat) : Int) by omega]
      exact ih (i + 1) (by omega) (by omega)
    · exact Ev.step (fun k => by rw [wimplelaw0_SameQuestions.l0]) (Ev.neg (by omega) (Ev.now _))
theorem sameQ (l : List S40) (hl : l.length ≤ 1000000) : Ev (fun k => wimplelaw0_SameQuestions.f k l l) true := Ev.pos rfl (sameQ_at l hl _ 0 (Nat.le_refl _) (by omega))
theorem sameR_at (l : List S53) (hl : l.length ≤ 1000000) : ∀ n i, l.length - i ≤ n → i ≤ l.length → Ev (fun k => wimplelaw0_SameRrs.l0 k l l (i : Int)) true := by
  intro n
  induction n with
  | zero => intro i h h2; exact Ev.step (fun k => by rw [wimplelaw0_SameRrs.l0]) (Ev.neg (by omega) (Ev.now _))
  | succ n ih =>
    intro i h h2
    by_cases hi : i < l.length
    · refine Ev.step (fun k => by rw [wimplelaw0_SameRrs.l0]) (Ev.pos (by omega) (Ev.pos (by omega) (Ev.pos (by omega) (Ev.neg (by simp) ?_))))
      rw [Pu.w64 (by omega) (by omega), show (i : Int) + 1 = ((i + 1 : Nat) : Int) by omega]
      exact ih (i + 1) (by omega) (by omega)
    · exact Ev.step (fun k => by rw [wimplelaw0_SameRrs.l0]) (Ev.neg (by omega) (Ev.now _))
theorem sameR (l : List S53) (hl : l.length ≤ 1000000) : Ev (fun k => wimplelaw0_SameRrs.f k l l) true := Ev.pos rfl (sameR_at l hl _ 0 (Nat.le_refl _) (by omega))
theorem sameM (id : Int) (qr : Bool) (op : Int) (aa tc rd ra : Bool) (z rc : Int) (qs : List S40) (an ns ar : List S53) (h1 : qs.length ≤ 1000000) (h2 : an.length ≤ 1000000) (h3 : ns.length ≤ 1000000) (h4 : ar.length ≤ 1000000) :
    Ev (fun k => wimplelaw0_SameMsg.f k id qr op aa tc rd ra z rc qs an ns ar id qr op aa tc rd ra z rc qs an ns ar) true :=
  Ev.pos (by simp) (Ev.bind (sameQ qs h1) (Ev.pos rfl (Ev.bind (sameR an h2) (Ev.pos rfl (Ev.bind (sameR ns h3) (Ev.pos rfl (Ev.bind (sameR ar h4) (Ev.now _))))))))
theorem qq (l : List S40) : (l.map wm_Q).map wm_Q' = l := by
  rw [List.map_map]
  conv => rhs; rw [← List.map_id l]
  exact List.map_congr_left fun x _ => rfl
theorem rr (l : List S53) : (l.map wm_R).map wm_R' = l := by
  rw [List.map_map]
  conv => rhs; rw [← List.map_id l]
  exact List.map_congr_left fun x _ => rfl
theorem qq' (l : List Qn) : (l.map wm_Q').map wm_Q = l := by
  rw [List.map_map]
  conv => rhs; rw [← List.map_id l]
  exact List.map_congr_left fun x _ => rfl
theorem rr' (l : List Rr) : (l.map wm_R').map wm_R = l := by
  rw [List.map_map]
  conv => rhs; rw [← List.map_id l]
  exact List.map_congr_left fun x _ => rfl
/-- What is read, in the print's words. -/
abbrev tup (g : Got) : Int × Bool × Int × Bool × Bool × Bool × Bool × Int × Int × List S40 × List S53 × List S53 × List S53 × Int :=
  (g.h.id, g.h.qr, g.h.op, g.h.aa, g.h.tc, g.h.rd, g.h.ra, g.h.z, g.h.rc, g.qs.map wm_Q', g.an.map wm_R', g.ns.map wm_R', g.ar.map wm_R', g.e)
theorem get_ev {s : ByteArray} {g : Got} (hs : s.size ≤ 9223372036854775000) (h : Ev (fun k => getV k s) g) : Ev (fun k => wire_Get.f k s) (tup g) := by
  obtain ⟨K, h⟩ := h
  refine ⟨K, fun k hk => ?_⟩
  show (getF k s).map _ = _
  unfold getF
  have h := h k hk
  dsimp only at h
  rw [if_pos hs, h]
  rfl
theorem small_map {l : List S53} (h : ∀ x ∈ l, x.f4.size ≤ 9223372036854775000) : smallB (l.map wm_R) = true := by
  unfold smallB
  rw [List.all_eq_true]
  intro r hr
  obtain ⟨x, hx, rfl⟩ := List.mem_map.1 hr
  exact decide_eq_true (h x hx)
theorem put_some (id : Int) (qr : Bool) (op : Int) (aa tc rd ra : Bool) (z rc : Int) (qs : List S40) (an ns ar : List S53) (h2 : ∀ x ∈ an, x.f4.size ≤ 9223372036854775000) (h3 : ∀ x ∈ ns, x.f4.size ≤ 9223372036854775000) (h4 : ∀ x ∈ ar, x.f4.size ≤ 9223372036854775000) :
    wire_Put.f id qr op aa tc rd ra z rc qs an ns ar = some (putS (msgOf ⟨id, qr, op, aa, tc, rd, ra, z, rc⟩ (qs.map wm_Q) (an.map wm_R) (ns.map wm_R) (ar.map wm_R)), putE (msgOf ⟨id, qr, op, aa, tc, rd, ra, z, rc⟩ (qs.map wm_Q) (an.map wm_R) (ns.map wm_R) (ar.map wm_R))) := by
  unfold wire_Put.f wirePutF
  rw [if_pos (by rw [small_map h2, small_map h3, small_map h4]; rfl)]
theorem awake : Ev (fun k => wimplelaw7_awake.f k) true := Ev.of wimplelaw7_awake.mono (k := 60) (by decide +kernel)
end Go.Proofs.Ytjklgdpffmaamaa.WirePWb

namespace Go.Proofs.Ytjklgdpffmaamaa.Pure
open Go.RowKit Go.Proofs.Ytjklgdpffmaamaa.PWb Go.Proofs.Ytjklgdpffmaamaa.Pu Go.Proofs.Ytjklgdpffmaamaa.Wm Go.Proofs.Ytjklgdpffmaamaa.WirePWb Go.Proofs.Ytjklgdpffmaamaa.Oct Go.Proofs.Ytjklgdpffmaamaa.Nm Go.Proofs.Ytjklgdpffmaamaa.Wr Go.Proofs.Ytjklgdpffmaamaa.OkzWb
open Go.Proofs.YtjklgdpffmaamaaW.PrintWords (Ev LeO)
set_option linter.unusedVariables false
theorem may_size {r : Rr} (h : rMay r = true) : r.data.size ≤ 65535 := by
  unfold rMay at h
  simp only [Bool.and_eq_true] at h
  have h := h.2
  unfold Rd.mayD at h
  by_cases c1 : r.type < 1
  · rw [if_pos c1] at h; cases h
  rw [if_neg c1] at h
  by_cases c2 : 65535 < r.type
  · rw [if_pos c2] at h; cases h
  rw [if_neg c2] at h
  by_cases c3 : 65535 < r.data.size
  · rw [if_pos c3] at h; cases h
  · omega
theorem small_of_may {l : List Rr} (h : ∀ r ∈ l, rMay r = true) : ∀ x ∈ l.map wm_R', x.f4.size ≤ 9223372036854775000 := by
  intro x hx
  obtain ⟨r, hr, rfl⟩ := List.mem_map.1 hx
  have := may_size (h r hr)
  show r.data.size ≤ _
  omega
theorem back_any (s : ByteArray) (hs : s.size ≤ 140737488351232) : Ev (fun k => wimplelaw7_WireBack.j0 k s) true := by
  refine Ev.step (fun k => by rw [wimplelaw7_WireBack.j0]) ?_
  obtain ⟨g, hg, ht⟩ := getV_cases s
  refine Ev.bind (get_ev (by omega) hg) ?_
  rcases ht with rfl | ⟨he, hz, hok, _⟩
  · refine Ev.call (a := _) rfl (Ev.neg ?_ (Ev.some _ fun _ => rfl))
    show ¬ (if 4096 < s.size then (701 : Int) else 700) = 0
    split <;> decide
  · refine Ev.call (a := _) rfl (Ev.pos he ?_)
    obtain ⟨_, _, ⟨n1, n2, n3, n4⟩, q1, q2, q3, q4⟩ := putOk_parts hok
    refine Ev.call (put_some g.h.id g.h.qr g.h.op g.h.aa g.h.tc g.h.rd g.h.ra g.h.z g.h.rc _ _ _ _ (small_of_may q2) (small_of_may q3) (small_of_may q4)) ?_
    rw [qq', rr', rr', rr', show (⟨g.h.id, g.h.qr, g.h.op, g.h.aa, g.h.tc, g.h.rd, g.h.ra, g.h.z, g.h.rc⟩ : Hd.Head) = g.h from rfl]
    cases hl : (putEnd (msgOf g.h g.qs g.an g.ns g.ar)).lg with
    | false =>
      obtain ⟨s1, s2, s3, s4⟩ := put_S hok hl
      rw [s1, s2]
      dsimp only
      refine Ev.call (a := 0) rfl (Ev.pos rfl ?_)
      have G := get_put hok hl ⟨#[]⟩ (by rw [app_nil]; exact s4)
      rw [app_nil, if_pos (show (⟨#[]⟩ : ByteArray).size = 0 from rfl)] at G
      refine Ev.bind (get_ev (by omega) G) (Ev.call (a := 0) rfl (Ev.pos rfl ?_))
      exact Ev.bind (sameM _ _ _ _ _ _ _ _ _ _ _ _ _ (by show (g.qs.map _).length ≤ _; rw [List.length_map]; have : g.qs.length ≤ 64 := n1; omega) (by show (g.an.map _).length ≤ _; rw [List.length_map]; have : g.an.length ≤ 64 := n2; omega) (by show (g.ns.map _).length ≤ _; rw [List.length_map]; have : g.ns.length ≤ 64 := n3; omega) (by show (g.ar.map _).length ≤ _; rw [List.length_map]; have : g.ar.length ≤ 64 := n4; omega)) (Ev.now _)
    | true =>
      obtain ⟨s1, s2⟩ := put_err (m := msgOf g.h g.qs g.an g.ns g.ar) (by rw [hl]; simp)
      have s2 : putE (msgOf g.h g.qs g.an g.ns g.ar) = 701 := by
        rcases s2 with ⟨_, h⟩ | ⟨h, _⟩
        · rw [hok] at h; cases h
        · exact h
      rw [s2]
      exact Ev.call (a := 701) rfl (Ev.neg (by decide) (Ev.call (a := 701) rfl (Ev.now _)))
theorem back (id : Int) (qr : Bool) (op : Int) (aa tc rd ra : Bool) (z rc : Int) (qs : List S40) (an ns ar : List S53) (s : ByteArray) (cut : Int) (h2 : ∀ x ∈ an, x.f4.size ≤ 140737488351232) (h3 : ∀ x ∈ ns, x.f4.size ≤ 140737488351232) (h4 : ∀ x ∈ ar, x.f4.size ≤ 140737488351232) (hs : s.size ≤ 140737488351232) :
    Ev (fun k => wimplelaw7_WireBack.f k id qr op aa tc rd ra z rc qs an ns ar s cut) true := by
  refine Ev.bind awake (Ev.pos rfl ?_)
  refine Ev.call (put_some id qr op aa tc rd ra z rc qs an ns ar (fun x hx => Nat.le_trans (h2 x hx) (by decide)) (fun x hx => Nat.le_trans (h3 x hx) (by decide)) (fun x hx => Nat.le_trans (h4 x hx) (by decide))) ?_
  generalize hM : msgOf ⟨id, qr, op, aa, tc, rd, ra, z, rc⟩ (qs.map wm_Q) (an.map wm_R) (ns.map wm_R) (ar.map wm_R) = M
  by_cases H : putOk M = true ∧ (putEnd M).lg = false
  · obtain ⟨hok, hl⟩ := H
    obtain ⟨s1, s2, s3, s4⟩ := put_S hok hl
    obtain ⟨_, _, ⟨n1, n2, n3, n4⟩, _⟩ := putOk_parts hok
    rw [s1, s2]
    dsimp only
    refine Ev.call (a := 0) rfl (Ev.pos rfl ?_)
    have G := get_put hok hl ⟨#[]⟩ (by rw [app_nil]; exact s4)
    rw [app_nil, if_pos (show (⟨#[]⟩ : ByteArray).size = 0 from rfl)] at G
    refine Ev.bind (get_ev (by omega) G) ?_
    have ez : IntKind.u64.wrap ((putEnd M).S.size : Int) = ((putEnd M).S.size : Int) := Pu.wraps_u64 _ (by omega) (by omega)
    rw [ez]
    have c0 : 0 ≤ IntKind.u64.wrap cut := by rw [Pu.u64_wrap]; omega
    generalize IntKind.u64.wrap cut = c at c0 ⊢
    have em : Int.tmod c ((putEnd M).S.size : Int) = c % ((putEnd M).S.size : Int) := Int.tmod_eq_emod_of_nonneg c0
    have m0 := Int.emod_nonneg c (show ((putEnd M).S.size : Int) ≠ 0 by omega)
    have m1 := Int.emod_lt_of_pos c (show (0 : Int) < ((putEnd M).S.size : Int) by omega)
    rw [em]
    generalize c % ((putEnd M).S.size : Int) = j at m0 m1 ⊢
    rw [Pu.w64 (x := j) (by omega) (by omega)]
    refine Ev.neg (by omega) (Ev.pos m0 (Ev.pos (by omega) ?_))
    refine Ev.bind (get_ev (by rw [ByteArray.size_extract]; omega) (get_cut hok hl j.toNat (by omega))) ?_
    refine Ev.call (a := 0) rfl (Ev.pos rfl ?_)
    have e1 : M.qs.map wm_Q' = qs := by rw [← hM]; exact qq qs
    have e2 : M.an.map wm_R' = an := by rw [← hM]; exact rr an
    have e3 : M.ns.map wm_R' = ns := by rw [← hM]; exact rr ns
    have e4 : M.ar.map wm_R' = ar := by rw [← hM]; exact rr ar
    have eh : M.h = ⟨id, qr, op, aa, tc, rd, ra, z, rc⟩ := by rw [← hM]; rfl
    have k1 : M.qs.length = qs.length := by rw [← e1, List.length_map]
    have k2 : M.an.length = an.length := by rw [← e2, List.length_map]
    have k3 : M.ns.length = ns.length := by rw [← e3, List.length_map]
    have k4 : M.ar.length = ar.length := by rw [← e4, List.length_map]
    refine Ev.bind (a := true) ?_ (Ev.pos rfl (Ev.call (a := 700) rfl (Ev.pos rfl (Ev.neg (by omega) (back_any s hs)))))
    show Ev (fun k => wimplelaw0_SameMsg.f k M.h.id M.h.qr M.h.op M.h.aa M.h.tc M.h.rd M.h.ra M.h.z M.h.rc (M.qs.map wm_Q') (M.an.map wm_R') (M.ns.map wm_R') (M.ar.map wm_R') id qr op aa tc rd ra z rc qs an ns ar) true
    rw [e1, e2, e3, e4, eh]
    exact sameM id qr op aa tc rd ra z rc qs an ns ar (by omega) (by omega) (by omega) (by omega)
  · obtain ⟨s1, s2⟩ := put_err H
    have s2 : putE M ≠ 0 := by rcases s2 with ⟨h, _⟩ | ⟨h, _⟩ <;> rw [h] <;> decide
    exact Ev.call (a := putE M) rfl (Ev.neg s2 (back_any s hs))
theorem ev (m : S27) (s : ByteArray) (cut : Int) (hm : ok27 m) (hs : s.size ≤ 140737488351232) (hc : (Lit.int .i64 cut).wf = true) : Ev (fun k => wimplelaw7_WireBack.f k m.f0.f0 m.f0.f1 m.f0.f2 m.f0.f3 m.f0.f4 m.f0.f5 m.f0.f6 m.f0.f7 m.f0.f8 m.f1 m.f2 m.f3 m.f4 s cut) true :=
  back _ _ _ _ _ _ _ _ _ _ _ _ _ s cut (fun x hx => (hm.2.2.1.2 x hx).2.2.2.2) (fun x hx => (hm.2.2.2.1.2 x hx).2.2.2.2) (fun x hx => (hm.2.2.2.2.2 x hx).2.2.2.2) hs
end Go.Proofs.Ytjklgdpffmaamaa.Pure

namespace Go.Proofs.Ytjklgdpffmaamaa.wireBack
open Go.ChangeShapes Go.WideShapes Go.ChangeAt Go.RowKit Go.Proofs.YtjklgdpffmaamaaW.PrintWords Go.Proofs.Ytjklgdpffmaamaa.PWb Go.Proofs.Ytjklgdpffmaamaa.OpenZd Go.Proofs.Ytjklgdpffmaamaa.OkzWb
open Go.ChangeMaps (open_string shut_string)
set_option linter.unusedVariables false
theorem own : ownKnob Try.prog.godebug = none := by kernel_rfl
theorem laidOut : laidOutB Try.prog = true := by kernel_rfl
set_option maxRecDepth 100000 in
theorem contract (H : Type) (enc : TypeId × Value → H) (W : World) (base : Nat) (args : Array Value) (ds gs : List (DataW H)) (before : List MemPlace)
    (hval : ∀ (j : Nat) t v, Try.f11.params[j]? = some t → args[j]? = some v → Value.okWide Try.prog W .any base t v)
    (hW : DataW.Whole enc Try.prog Try.f11.params.toList Rows.wireBackSpec.vars false W args.toList ds gs before) (hsz : (DataW.weightsEach Try.prog (Try.f11.params.toList ++ Rows.wireBackSpec.plain.varTypes Try.prog) (ds ++ gs)).all (· ≤ reachBytes) = true) :
    Calls Try.prog 11 args W fun e W' => ∃ v, e = .returned v ∧ Rows.wireBackSpec.post enc Try.prog Try.f11 false true false false W args v W' := by
  have hW' := hW
  obtain ⟨p, q, hA0, hV, rfl, hfz, hnd⟩ := hW
  have hA : DataW.TrodAll enc Try.prog W 0 (fun _ => true) true Try.f11.params.toList args.toList ds p := hA0
  rw [Try.params11] at hA hval hsz
  obtain ⟨v0, vs0, d0, ds0, p0, q0, hargs, rfl, rfl, h0, r0⟩ := trodAll_cons hA
  obtain ⟨v1, vs1, d1, ds1, p1, q1, rfl, rfl, rfl, h1, r1⟩ := trodAll_cons r0
  obtain ⟨v2, vs2, d2, ds2, p2, q2, rfl, rfl, rfl, h2, r2⟩ := trodAll_cons r1
  obtain ⟨rfl, rfl, rfl⟩ := trodAll_nil r2
  obtain rfl : args = #[v0, v1, v2] := by cases args; simp_all
  obtain ⟨rfl, rfl⟩ := trodVars_none hV
  have k0 := h0
  have lt0 : ∀ x ∈ p0, x.block < W.heap.size := by obtain ⟨m, hm⟩ := k0; exact DataW.trod_lt m _ _ _ hm
  obtain ⟨fuel0, hf0⟩ := h0
  have light0 : Light Try.prog 27 d0 := light_each Try.prog hsz (j := 0) rfl rfl
  obtain ⟨cs0, rfl, hs0⟩ := okWide_struct Try.underlying27 (hval 0 27 v0 rfl rfl)
  have hf0' : DataW.trod enc Try.prog W 0 (fun _ => true) true fuel0 27 cs0.toList = some (d0, p0) := by simpa [Value.cells] using hf0
  obtain ⟨x0, e0, o0⟩ := opens27 enc W 0 (fun _ => true) true _ _ _ hf0' light0
  have e0' := e0
  generalize hcs0 : cs0.toList = l0 at e0'
  obtain ⟨z0_0, t0_0, rfl, g0_0, r0_0⟩ := e0'
  obtain ⟨z0_0_0, t0_0_0, rfl, g0_0_0, r0_0_0⟩ := g0_0
  obtain rfl := g0_0_0
  obtain ⟨z0_0_1, t0_0_1, rfl, g0_0_1, r0_0_1⟩ := r0_0_0
  obtain rfl := g0_0_1
  obtain ⟨z0_0_2, t0_0_2, rfl, g0_0_2, r0_0_2⟩ := r0_0_1
  obtain rfl := g0_0_2
  obtain ⟨z0_0_3, t0_0_3, rfl, g0_0_3, r0_0_3⟩ := r0_0_2
  obtain rfl := g0_0_3
  obtain ⟨z0_0_4, t0_0_4, rfl, g0_0_4, r0_0_4⟩ := r0_0_3
  obtain rfl := g0_0_4
  obtain ⟨z0_0_5, t0_0_5, rfl, g0_0_5, r0_0_5⟩ := r0_0_4
  obtain rfl := g0_0_5
  obtain ⟨z0_0_6, t0_0_6, rfl, g0_0_6, r0_0_6⟩ := r0_0_5
  obtain rfl := g0_0_6
  obtain ⟨z0_0_7, t0_0_7, rfl, g0_0_7, r0_0_7⟩ := r0_0_6
  obtain rfl := g0_0_7
  obtain rfl := r0_0_7
  obtain ⟨z0_1, t0_1, rfl, g0_1, r0_1⟩ := r0_0
  obtain ⟨A0_1, c0_1, rfl, hl0_1, hC0_1⟩ := g0_1
  obtain ⟨z0_2, t0_2, rfl, g0_2, r0_2⟩ := r0_1
  obtain ⟨A0_2, c0_2, rfl, hl0_2, hC0_2⟩ := g0_2
  obtain ⟨z0_3, t0_3, rfl, g0_3, r0_3⟩ := r0_2
  obtain ⟨A0_3, c0_3, rfl, hl0_3, hC0_3⟩ := g0_3
  obtain ⟨A0_4, c0_4, rfl, hl0_4, hC0_4⟩ := r0_3
  obtain rfl : cs0 = #[.int .i64 x0.f0.f0, .bool x0.f0.f1, .int .i64 x0.f0.f2, .bool x0.f0.f3, .bool x0.f0.f4, .bool x0.f0.f5, .bool x0.f0.f6, .int .i64 x0.f0.f7, .int .i64 x0.f0.f8, .slice A0_1 x0.f1.length c0_1, .slice A0_2 x0.f2.length c0_2, .slice A0_3 x0.f3.length c0_3, .slice A0_4 x0.f4.length c0_4] := by apply Array.ext'; simpa using hcs0
  have k1 := h1
  have lt1 : ∀ x ∈ p1, x.block < W.heap.size := by obtain ⟨m, hm⟩ := k1; exact DataW.trod_lt m _ _ _ hm
  obtain ⟨fuel1, hf1⟩ := h1
  have light1 : Light Try.prog 9 d1 := light_each Try.prog hsz (j := 1) rfl rfl
  obtain ⟨a1, rfl, _, _, wa1⟩ := open_string Try.underlying9 (hval 1 9 v1 rfl rfl) k1
  obtain ⟨x1, e1, o1⟩ := (opens_string enc Try.prog W 0 (fun _ => true) true Try.underlying9) _ _ _ hf1 light1
  obtain rfl : a1 = x1 := by have e' := List.cons.inj e1; simpa using e'.1
  have k2 := h2
  have lt2 : ∀ x ∈ p2, x.block < W.heap.size := by obtain ⟨m, hm⟩ := k2; exact DataW.trod_lt m _ _ _ hm
  obtain ⟨fuel2, hf2⟩ := h2
  have light2 : Light Try.prog 3 d2 := light_each Try.prog hsz (j := 2) rfl rfl
  obtain ⟨a2, rfl, _, _, wa2⟩ := open_int Try.underlying3 (hval 2 3 v2 rfl rfl) k2
  obtain ⟨x2, e2, o2⟩ := (opens_int enc Try.prog W 0 (fun _ => true) true Try.underlying3) _ _ _ hf2 light2
  obtain rfl : a2 = x2 := by have e' := List.cons.inj e2; simpa using e'.1
  obtain ⟨k, h⟩ := Ev.rounds (Pure.ev x0 a1 a2 o0 o1 o2)
  clear hA0
  refine (wimplelaw7_WireBack.calls k x0.f0.f0 x0.f0.f1 x0.f0.f2 x0.f0.f3 x0.f0.f4 x0.f0.f5 x0.f0.f6 x0.f0.f7 x0.f0.f8 A0_1 c0_1 x0.f1 A0_2 c0_2 x0.f2 A0_3 c0_3 x0.f3 A0_4 c0_4 x0.f4 a1 a2 true W hC0_1 hl0_1 hC0_2 hl0_2 hC0_3 hl0_3 hC0_4 hl0_4 h).mono fun e W' ⟨he, hd⟩ => ?_
  have bel : Below W.heap.size W W' := hd
  subst he
  exact ⟨_, rfl, _, _, _, [], _, [], hW', trodAll_mk1 (shut_bool Try.underlying4 _), (trodAll_cons_mk (Below.trod laidOut (by kernel_rfl) (of_decide_eq_true (by kernel_rfl)) k0 bel lt0) (trodAll_cons_mk (Below.trod laidOut (by kernel_rfl) (of_decide_eq_true (by kernel_rfl)) k1 bel lt1) (trodAll_cons_mk (Below.trod laidOut (by kernel_rfl) (of_decide_eq_true (by kernel_rfl)) k2 bel lt2) trodAll_mk0))), rfl, bel.frame _, fun h => by cases h⟩
set_option maxRecDepth 100000 in
theorem lifted (os : Os) (started : os.Started) (H : Type) (enc : TypeId × Value → H) :
    ReturnsInHanded {} Try.checked os 11 .any (Rows.wireBackSpec.pre6 enc Try.prog Try.f11 Rows.wireBackRow.domain false) (Rows.wireBackSpec.post enc Try.prog Try.f11 false true false false) := by
  refine returnsInHanded_of_change_sized (C := Try.checked) own started (by kernel_rfl) Try.func11
    (ChangeSpec.witness6 (enc := enc) (C := Try.checked) false ⟨#[], #[.agg #[.int .i64 0, .bool false, .int .i64 0, .bool false, .bool false, .bool false, .bool false, .int .i64 0, .int .i64 0, .slice none 0 0, .slice none 0 0, .slice none 0 0, .slice none 0 0], .string ByteArray.empty, .int .i64 0], []⟩ 8 (by kernel_rfl) (by kernel_rfl) (by kernel_rfl) (by kernel_rfl)) ?_
  intro W base args ds gs before hval hW _ hsz _
  exact contract H enc W base args ds gs before hval hW hsz
theorem over : Rows.wireBackRow.holds Try.pinned (OpenSpec.ofChange Rows.wireBackSpec) :=
  OpenClaim.holds_of_wide 11 Try.f11 rfl rfl rfl rfl rfl rfl rfl ⟨rfl, rfl, rfl, rfl, rfl⟩ rfl rfl rfl rfl rfl (by kernel_rfl) Try.func11 (by kernel_rfl)
    (of_decide_eq_true (by kernel_rfl)) (by unfold Func.isWrapper; first | (rw [if_pos (by decide +kernel)]; kernel_rfl) | (rw [if_neg (by decide +kernel)]; exact ⟨rfl, rfl⟩))
    (fun os started H enc _ => lifted os started H enc)
end Go.Proofs.Ytjklgdpffmaamaa.wireBack
namespace Go.Proofs.Ytjklgdpffmaamaa
theorem wireBack_holds : Rows.WireBackSaid := wireBack.over
end Go.Proofs.Ytjklgdpffmaamaa
