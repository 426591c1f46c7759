/- The document's list of rests and places, against the writer's map: both say the same, before a name is put and behind it. -/
import Derived.Test.YtepglkgpgoifkaaLies
namespace Go.Proofs.Ytepglkgpgoifkaa.Wr
open Go.RowKit Go.PlainAid Go.Proofs.Ytepglkgpgoifkaa.Base Go.Proofs.Ytepglkgpgoifkaa.Oct Go.Proofs.Ytepglkgpgoifkaa.Nm
set_option linter.unusedVariables false
/-- What a list of rests and places says of a rest: its first place. -/
def mOf : List (ByteArray × Int) → ByteArray → Option Int
  | [], _ => none
  | (r, t) :: ms, x => if r = x then some t else mOf ms x
theorem mOf_app (a b : List (ByteArray × Int)) (x : ByteArray) : mOf (a ++ b) x = match mOf a x with
    | some t => some t
    | none => mOf b x := by
  induction a with
  | nil => rfl
  | cons p a ih =>
    obtain ⟨r, t⟩ := p
    show (if r = x then some t else mOf (a ++ b) x) = _
    by_cases h : r = x
    · rw [if_pos h]; simp [mOf, h]
    · rw [if_neg h, ih]; simp [mOf, h]
/-- What is put: so many rests of a name, each at its place. -/
def freshN (s : ByteArray) (at0 : Nat) (ps : List Nat) : List (ByteArray × Int) := ps.map fun p => (s.extract p s.size, (at0 : Int) + (p : Int))
theorem fresh_miss (s x : ByteArray) (at0 : Nat) : ∀ ps : List Nat, (∀ p ∈ ps, s.extract p s.size ≠ x) → mOf (freshN s at0 ps) x = none := by
  intro ps
  induction ps with
  | nil => intro _; rfl
  | cons p ps ih =>
    intro h
    show (if s.extract p s.size = x then _ else mOf (freshN s at0 ps) x) = none
    rw [if_neg (h p (List.mem_cons_self ..)), ih fun q hq => h q (List.mem_cons_of_mem _ hq)]
theorem fresh_hit (s x : ByteArray) (at0 p0 : Nat) (hx : s.extract p0 s.size = x) : ∀ ps : List Nat, p0 ∈ ps → (∀ p ∈ ps, s.extract p s.size = x → p = p0) → mOf (freshN s at0 ps) x = some ((at0 : Int) + p0) := by
  intro ps
  induction ps with
  | nil => intro h; cases h
  | cons p ps ih =>
    intro h hu
    show (if s.extract p s.size = x then some ((at0 : Int) + (p : Int)) else mOf (freshN s at0 ps) x) = _
    by_cases e : s.extract p s.size = x
    · obtain rfl := hu p (List.mem_cons_self ..) e
      rw [if_pos e]
    · rw [if_neg e]
      refine ih ?_ fun q hq => hu q (List.mem_cons_of_mem _ hq)
      rcases List.mem_cons.1 h with h | h
      · subst h; exact absurd hx e
      · exact h
theorem find_new (m : ByteArray → Option Int) (s : ByteArray) : ∀ (ps : List Nat) (i : Nat), ∀ p ∈ ps.take (wroteF i ps.length (findP m s ps i)), m (s.extract p s.size) = none := by
  intro ps
  induction ps with
  | nil => intro i p hp; simp at hp
  | cons a ps ih =>
    intro i p hp
    rw [findP] at hp
    cases hm : m (s.extract a s.size) with
    | some t => rw [hm] at hp; simp [wroteF] at hp
    | none =>
      rw [hm] at hp
      have hge := fun j q t => find_ge m s ps (i + 1) j q t
      have ih := ih (i + 1)
      simp only at hp
      generalize findP m s ps (i + 1) = f at hp hge ih
      have e : wroteF i (a :: ps).length f = wroteF (i + 1) ps.length f + 1 := by
        match f, hge with
        | none, _ => rfl
        | some (j, q, t), hge => have := (hge j q t rfl).1; show j - i = j - (i + 1) + 1; omega
      rw [e, List.take_succ_cons] at hp
      rcases List.mem_cons.1 hp with rfl | hp
      · exact hm
      · exact ih p hp
theorem wrote_is (m : ByteArray → Option Int) (s : ByteArray) : wroteN m s = wroteF 0 (heads s).length (findP m s (heads s) 0) := by
  unfold wroteN
  cases findP m s (heads s) 0 with
  | none => rfl
  | some r => obtain ⟨i, p, t⟩ := r; rfl
theorem new_none (m : ByteArray → Option Int) (s : ByteArray) : ∀ p ∈ (heads s).take (wroteN m s), m (s.extract p s.size) = none := by
  rw [wrote_is]; exact find_new m s _ 0
theorem heads_lt {s : ByteArray} {p : Nat} (h : p ∈ heads s) : p < s.size := placesAt_mem s _ 0 (Nat.le_refl _) p (List.dropLast_subset _ h)
/-- The list behind the name says what the map says. -/
theorem mOf_put (ms : List (ByteArray × Int)) (s : ByteArray) (at0 : Nat) : mOf (ms ++ freshN s at0 ((heads s).take (wroteN (mOf ms) s))) = putN (mOf ms) s at0 := by
  funext x
  have hnone := new_none (mOf ms) s
  unfold putN
  have hlt : ∀ p ∈ (heads s).take (wroteN (mOf ms) s), p < s.size := fun p hp => heads_lt (List.mem_of_mem_take hp)
  generalize (heads s).take (wroteN (mOf ms) s) = ps at *
  rw [mOf_app]
  by_cases hit : ∃ p ∈ ps, s.extract p s.size = x
  · obtain ⟨p0, hp0, hx⟩ := hit
    have hu : ∀ p ∈ ps, s.extract p s.size = x → p = p0 := fun p hp e => rest_inj s p p0 (Nat.le_of_lt (hlt p hp)) (Nat.le_of_lt (hlt p0 hp0)) (e.trans hx.symm)
    rw [putK_hit s x at0 p0 hx ps _ hp0 hu, ← hx, hnone p0 hp0, hx]
    exact fresh_hit s x at0 p0 hx ps hp0 hu
  · have hm : ∀ p ∈ ps, s.extract p s.size ≠ x := fun p hp e => hit ⟨p, hp, e⟩
    rw [putK_miss s x at0 ps _ hm, fresh_miss s x at0 ps hm]
    cases mOf ms x <;> rfl
/-- All places lie below the greatest that a pointer tells. -/
def Small (m : ByteArray → Option Int) : Prop := ∀ x t, m x = some t → 0 ≤ t ∧ t < 16384
theorem Small.put {m : ByteArray → Option Int} (h : Small m) (s : ByteArray) (at0 : Nat) (hz : at0 + s.size ≤ 16384) : Small (putN m s at0) := by
  intro x t hx
  rcases putK_inv s x at0 t _ _ hx with hx | ⟨p, hp, _, rfl⟩
  · exact h x t hx
  · have := heads_lt (List.mem_of_mem_take hp); omega
theorem or_place (t : Int) (h0 : 0 ≤ t) (h1 : t < 16384) : Go.bits .or .i64 49152 t = 49152 + t := by
  have := Pu.or_shl 14 (by decide) 3 t (by decide) (by omega) (by omega) (by omega)
  simpa using this
end Go.Proofs.Ytepglkgpgoifkaa.Wr
