/- A law's arguments laid open as Lean's own data: what each kind of data reads as, and how much of it there is (uptoBulk). -/
import Derived.Test.YtepglkgpgoifkaaRows
import Derived.Test.YtepglkgpgoifkaaWWords
import Derived.WalkKit
import Derived.ProofKit
import Derived.ChangeArms
import Derived.DataReads
namespace Go.Proofs.Ytepglkgpgoifkaa.OpenKd
open Go.ChangeShapes Go.WideShapes Go.ChangeAt Go.RowKit Go.Proofs.YtepglkgpgoifkaaW.PrintWords
set_option linter.unusedVariables false
theorem add_two (a : Addr) (i j : Nat) : (a.add i).add j = a.add (i + j) := by
  unfold Addr.add
  by_cases hi : i = 0
  · simp [hi]
  · by_cases hj : j = 0
    · simp [hj]
    · simp [hi, hj, Nat.add_assoc]
section
variable {H : Type} (enc : TypeId × Value → H) (P : Program) (W : World) (base : Nat) (spare : Nat → Bool) (held : Bool)
/-- Each datum of the type reads as a value of the kind; what is known of it, and how much it is. -/
def Opens {α : Type} (t : TypeId) (d : Kd α) (ok : α → Prop) (bk : α → Nat) : Prop :=
  ∀ fuel cs y, DataW.trod enc P W base spare held fuel t cs = some y → ∃ x, d.K W x cs ∧ ok x ∧ bk x ≤ Rows.uptoBulk y.1
theorem opens_int {t : TypeId} {k : IntKind} (hu : P.underlying t = some (.int k)) : Opens enc P W base spare held t (Kd.int k) (fun x => (Lit.int k x).wf = true) (fun _ => 1) := by
  intro fuel cs y h
  obtain ⟨n, rfl, rfl, hw⟩ := DataW.trod_int hu h
  exact ⟨n, rfl, hw, Nat.le_refl _⟩
theorem opens_bool {t : TypeId} (hu : P.underlying t = some .bool) : Opens enc P W base spare held t Kd.bool (fun _ => True) (fun _ => 1) := by
  intro fuel cs y h
  obtain ⟨n, rfl, rfl⟩ := DataW.trod_bool hu h
  exact ⟨n, rfl, trivial, Nat.le_refl _⟩
theorem opens_string {t : TypeId} (hu : P.underlying t = some .string) : Opens enc P W base spare held t Kd.string (fun s => s.size ≤ maxLen) (fun s => s.size + 1) := by
  intro fuel cs y h
  obtain ⟨s, rfl, rfl, hw⟩ := DataW.trod_string hu h
  refine ⟨s, rfl, hw, ?_⟩
  show s.size + 1 ≤ s.data.toList.length + 1
  rw [Array.length_toList]; exact Nat.le_refl _
/-- All of a list. -/
def bks {α : Type} (bk : α → Nat) (xs : List α) : Nat := (xs.map bk).sum + 1
theorem bulk_sum {α : Type} (bk : α → Nat) : ∀ (xs : List α) (es : List (DataW H × List MemPlace)), es.length = xs.length → (∀ i (h : i < xs.length) (h' : i < es.length), bk xs[i] ≤ Rows.uptoBulk es[i].1) → (xs.map bk).sum ≤ Rows.uptoBulkAll (es.map (·.1))
  | [], [], _, _ => Nat.le_refl _
  | x :: xs, e :: es, hl, h => by
    have h0 := h 0 (by simp) (by simp)
    have ih := bulk_sum bk xs es (by simpa using hl) (fun i hi hi' => h (i + 1) (by simpa using hi) (by simpa using hi'))
    simp only [List.map_cons, List.sum_cons, Rows.uptoBulkAll]
    have h0' : bk x ≤ Rows.uptoBulk e.1 := h0
    omega
variable {enc P W base spare held}
/-- A slice of elements of a kind: its value, and that it reads as a list. -/
theorem open_slice {α : Type} {t e : TypeId} {d : Kd α} {ok : α → Prop} {bk : α → Nat} (hu : P.underlying t = some (.slice e)) (hsz : P.cellsOf e = d.sz) (ho : Opens enc P W base spare held e d ok bk)
    {fuel : Nat} {cs : List Value} {y : DataW H × List MemPlace} (h : DataW.trod enc P W base spare held fuel t cs = some y) :
    ∃ (A : Option Addr) (xs : List α) (c : Nat), cs = [.slice A xs.length c] ∧ xs.length ≤ c ∧ d.C W A xs.length xs ∧ (∀ x ∈ xs, ok x) ∧ bks bk xs ≤ Rows.uptoBulk y.1 := by
  rcases DataW.trod_slice hu h with ⟨rfl, rfl⟩ | ⟨a, len, cap, elems, rest, n, _, rfl, rfl, hb, hl, hm, hlen, hel, hsp, hns⟩
  · exact ⟨none, [], 0, rfl, Nat.le_refl _, ⟨rfl, by simp, fun h => by simp at h⟩, by simp, by simp [bks, Rows.uptoBulk]⟩
  have key : ∀ m, m ≤ len → ∃ xs : List α, xs.length = m ∧ (∀ x ∈ xs, ok x) ∧ (∀ i (hi : i < xs.length) (h' : i < elems.length), bk xs[i] ≤ Rows.uptoBulk elems[i].1) ∧
      ∀ i (hi : i < xs.length), ∃ c, c.length = d.sz ∧ d.K W xs[i] c ∧ ∀ j u, c[j]? = some u → W.cell? (a.add (i * d.sz + j)) = some u := by
    intro m
    induction m with
    | zero => exact fun _ => ⟨[], rfl, by simp, by simp, by simp⟩
    | succ m ih =>
      intro hm'
      obtain ⟨xs, hx, h1, h2, h3⟩ := ih (by omega)
      have hi : m < elems.length := by omega
      have e0 := hel m (by omega)
      rw [List.getElem?_eq_getElem hi, Option.bind_eq_some_iff] at e0
      obtain ⟨c, hc, ht⟩ := e0
      obtain ⟨x, hk, hok, hbk⟩ := ho _ _ _ ht
      obtain ⟨_, hcl, hcc⟩ := World.cells?_some hc
      rw [hsz] at hcl hcc
      refine ⟨xs ++ [x], by simp [hx], ?_, ?_, ?_⟩
      · intro z hz
        rcases List.mem_append.1 hz with hz | hz
        · exact h1 z hz
        · rw [List.mem_singleton.1 hz]; exact hok
      · intro i hi2 h'
        by_cases hlt : i < xs.length
        · rw [List.getElem_append_left hlt]; exact h2 i hlt h'
        · have : i = m := by rw [List.length_append, List.length_singleton] at hi2; omega
          subst this
          rw [List.getElem_append_right (by omega)]
          simpa using hbk
      · intro i hi2
        by_cases hlt : i < xs.length
        · rw [List.getElem_append_left hlt]; exact h3 i hlt
        · have : i = m := by rw [List.length_append, List.length_singleton] at hi2; omega
          subst this
          rw [List.getElem_append_right (by omega)]
          refine ⟨c, hcl, by simpa using hk, fun j u hj => ?_⟩
          have hj' : j < d.sz := by rw [← hcl]; exact (List.getElem?_eq_some_iff.1 hj).1
          have := hcc j hj'
          rw [hj] at this
          rw [← this, add_two]
  obtain ⟨xs, hx, h1, h2, h3⟩ := key len (Nat.le_refl _)
  refine ⟨some a, xs, cap, by rw [hx], by omega, ⟨rfl, by unfold maxLen at hm; omega, fun _ => ⟨a, rfl, fun j p hj => ?_⟩⟩, h1, ?_⟩
  · obtain ⟨hj', rfl⟩ := List.getElem?_eq_some_iff.1 hj
    exact h3 j hj'
  · have := bulk_sum bk xs elems (by omega) h2
    simp only [Rows.uptoBulk, bks]
    omega
variable (enc P W base spare held)
theorem opens_slice {α : Type} {t e : TypeId} {d : Kd α} {ok : α → Prop} {bk : α → Nat} (hu : P.underlying t = some (.slice e)) (hsz : P.cellsOf e = d.sz) (ho : Opens enc P W base spare held e d ok bk) :
    Opens enc P W base spare held t (Kd.slice e d) (fun xs => ∀ x ∈ xs, ok x) (bks bk) := by
  intro fuel cs y h
  obtain ⟨A, xs, c, rfl, hl, hC, h1, h2⟩ := open_slice hu hsz ho h
  exact ⟨xs, ⟨A, c, rfl, hl, hC⟩, h1, h2⟩
end
end Go.Proofs.Ytepglkgpgoifkaa.OpenKd
