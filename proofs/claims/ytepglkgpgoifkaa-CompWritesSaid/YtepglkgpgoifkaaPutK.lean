/- What a writer keeps of a name's rests: which key leads where. -/
import Derived.Test.YtepglkgpgoifkaaWriterName
namespace Go.Proofs.Ytepglkgpgoifkaa.Wr
open Go.RowKit Go.PlainAid Go.Proofs.Ytepglkgpgoifkaa.Base Go.Proofs.Ytepglkgpgoifkaa.Nm
set_option linter.unusedVariables false
theorem putK_miss (s x : ByteArray) (at0 : Nat) : ∀ (ps : List Nat) (m : ByteArray → Option Int), (∀ p ∈ ps, s.extract p s.size ≠ x) → putK m s at0 ps x = m x := by
  intro ps
  induction ps with
  | nil => intro m _; rfl
  | cons p ps ih =>
    intro m h
    show putK (fun y => if y = s.extract p s.size then some ((at0 : Int) + p) else m y) s at0 ps x = m x
    rw [ih _ fun q hq => h q (List.mem_cons_of_mem _ hq)]
    exact if_neg fun e => h p (List.mem_cons_self ..) e.symm
theorem putK_hit (s x : ByteArray) (at0 p0 : Nat) (hx : s.extract p0 s.size = x) : ∀ (ps : List Nat) (m : ByteArray → Option Int), p0 ∈ ps → (∀ p ∈ ps, s.extract p s.size = x → p = p0) → putK m s at0 ps x = some ((at0 : Int) + p0) := by
  intro ps
  induction ps with
  | nil => intro m h; cases h
  | cons p ps ih =>
    intro m h hu
    show putK (fun y => if y = s.extract p s.size then some ((at0 : Int) + p) else m y) s at0 ps x = _
    by_cases hp : p0 ∈ ps
    · exact ih _ hp fun q hq => hu q (List.mem_cons_of_mem _ hq)
    · have e : p0 = p := by rcases List.mem_cons.1 h with e | e
                            · exact e
                            · exact absurd e hp
      subst e
      rw [putK_miss s x at0 ps _ fun q hq e2 => hp (by rw [← hu q (List.mem_cons_of_mem _ hq) e2]; exact hq)]
      exact if_pos hx.symm
/-- Rests of one name are one only where they begin at one place. -/
theorem rest_inj (s : ByteArray) (p q : Nat) (hp : p ≤ s.size) (hq : q ≤ s.size) (h : s.extract p s.size = s.extract q s.size) : p = q := by
  have := congrArg ByteArray.size h
  rw [ByteArray.size_extract, ByteArray.size_extract] at this
  omega
end Go.Proofs.Ytepglkgpgoifkaa.Wr
