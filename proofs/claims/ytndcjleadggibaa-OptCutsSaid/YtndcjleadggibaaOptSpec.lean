/- What the printed functions of opt answer, from some number of rounds on: put, options, get. -/
import Derived.Test.YtndcjleadggibaaPure
import Derived.Test.YtndcjleadggibaaPOptx4
import Derived.Test.YtndcjleadggibaaPOptx5
namespace Go.Proofs.Ytndcjleadggibaa.OptS
open Go.RowKit Go.Proofs.Ytndcjleadggibaa.POpt Go.Proofs.YtndcjleadggibaaW.PrintWords Go.Proofs.Ytndcjleadggibaa.Pu
set_option linter.unusedVariables false
abbrev O := S52

theorem in_eq (a b : Int) : opt_in.f a b = some (decide (0 ≤ a) && decide (a ≤ b)) := by
  unfold opt_in.f
  by_cases h : 0 ≤ a
  · rw [if_pos h, decide_eq_true h]; rfl
  · rw [if_neg h, decide_eq_false h]; rfl
def p16 (x : Int) : List Int := [(x / 256) % 256, x % 256]
theorem put16_eq (x : Int) : octet_Put16.f x = some (strOfNums (p16 x)) := rfl
theorem p16_range (x : Int) : ∀ y ∈ p16 x, 0 ≤ y ∧ y ≤ 255 := by
  intro y hy
  simp only [p16, List.mem_cons, List.not_mem_nil, or_false] at hy
  omega
/-- An option's bytes, options' bytes. -/
def oB (x : O) : List Int := p16 x.f0 ++ p16 (x.f1.size : Int) ++ bytesOf x.f1
def osB (l : List O) : List Int := l.flatMap oB
def oOk (x : O) : Bool := decide (0 ≤ x.f0) && decide (x.f0 ≤ 65535) && decide (x.f1.size ≤ 65535)
def osOk (l : List O) : Bool := l.all oOk && decide ((osB l).length ≤ 65535)
theorem oB_length (x : O) : (oB x).length = 4 + x.f1.size := by
  unfold oB; rw [List.length_append, List.length_append, bytesOf_length]; rfl
theorem osB_cons (x : O) (l : List O) : osB (x :: l) = oB x ++ osB l := rfl
theorem osB_app (l m : List O) : osB (l ++ m) = osB l ++ osB m := by unfold osB; rw [List.flatMap_append]
def ttlOf (e v : Int) (d : Bool) (z : Int) : Int := e * 16777216 + v * 65536 + (if d then 32768 else 0) + z
abbrev R := ByteArray × Int × Int × Int × ByteArray × Int
def putNo : R := (⟨#[]⟩, 0, 0, 0, ⟨#[]⟩, 800)
def putYes (s e v : Int) (d : Bool) (z : Int) (l : List O) : R := (⟨#[0]⟩, 41, s, ttlOf e v d z, strOfNums (osB l), 0)
def headOk (s e v z : Int) : Bool := (decide (0 ≤ s) && decide (s ≤ 65535)) && ((decide (0 ≤ e) && decide (e ≤ 255)) && ((decide (0 ≤ v) && decide (v ≤ 255)) && (decide (0 ≤ z) && decide (z ≤ 32767))))
def putR (s e v : Int) (d : Bool) (z : Int) (l : List O) : R := if headOk s e v z && osOk l then putYes s e v d z l else putNo
theorem ttl_no (e v z : Int) (he : 0 ≤ e ∧ e ≤ 255) (hv : 0 ≤ v ∧ v ≤ 255) (hz : 0 ≤ z ∧ z ≤ 32767) : Go.bits .or .i64 (Go.bits .or .i64 (wrap64 (e * 16777216)) (wrap64 (v * 65536))) z = ttlOf e v false z := by
  rw [w64 (by omega) (by omega), w64 (by omega) (by omega)]
  have h1 := or_shl 24 (by decide) e (v * 65536) (by omega) (by omega) (by omega) (by omega)
  have h2 := or_shl 16 (by decide) (e * 256 + v) z (by omega) (by omega) (by omega) (by omega)
  simp only [show (2 : Int) ^ 24 = 16777216 from rfl, show (2 : Int) ^ 16 = 65536 from rfl] at h1 h2
  rw [h1, show e * 16777216 + v * 65536 = (e * 256 + v) * 65536 by omega, h2]
  unfold ttlOf; simp; omega
theorem ttl_yes (e v z : Int) (he : 0 ≤ e ∧ e ≤ 255) (hv : 0 ≤ v ∧ v ≤ 255) (hz : 0 ≤ z ∧ z ≤ 32767) : Go.bits .or .i64 (ttlOf e v false z) 32768 = ttlOf e v true z := by
  obtain ⟨e, rfl⟩ := Int.eq_ofNat_of_zero_le he.1
  obtain ⟨v, rfl⟩ := Int.eq_ofNat_of_zero_le hv.1
  obtain ⟨z, rfl⟩ := Int.eq_ofNat_of_zero_le hz.1
  have t0 : ttlOf e v false z = ((2 ^ 16 * (e * 256 + v) + z : Nat) : Int) := by unfold ttlOf; simp; omega
  have t1 : ttlOf e v true z = ((2 ^ 16 * (e * 256 + v) + (2 ^ 15 + z) : Nat) : Int) := by unfold ttlOf; simp; omega
  have h := or_mid 15 (e * 256 + v) z (by omega)
  rw [t0, t1, show (32768 : Int) = ((2 ^ 15 : Nat) : Int) from rfl, or_nat _ _ (by omega) (by decide), h]
end Go.Proofs.Ytndcjleadggibaa.OptS
