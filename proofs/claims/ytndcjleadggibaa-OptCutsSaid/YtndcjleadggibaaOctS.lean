/- Numbers read out of strings (octet.U16 as printed), from some number of rounds on. -/
import Derived.Test.YtndcjleadggibaaPure
import Derived.Test.YtndcjleadggibaaPOptx5
namespace Go.Proofs.Ytndcjleadggibaa.OctS
open Go.RowKit Go.Proofs.Ytndcjleadggibaa.POpt Go.Proofs.YtndcjleadggibaaW.PrintWords Go.Proofs.Ytndcjleadggibaa.Pu
set_option linter.unusedVariables false
theorem bits_next (a b : Int) (h0 : 0 ≤ a) (h1 : a ≤ 36028797018963967) (h2 : 0 ≤ b) (h3 : b ≤ 255) : Go.bits .or .i64 (wrap64 (a * 256)) (wrap64 b) = a * 256 + b := by
  rw [w64 (by omega) (by omega), w64 (by omega) (by omega)]; exact or_shl8 a b h0 h1 h2 h3
/-- So many bytes from a place on, as a number. -/
def num (s : ByteArray) (i : Nat) : Nat → Int
  | 0 => 0
  | j + 1 => num s i j * 256 + bt s ((i + j : Nat) : Int)
theorem num_range (s : ByteArray) (i : Nat) : ∀ j, 0 ≤ num s i j ∧ num s i j < 256 ^ j
  | 0 => by simp [num]
  | j + 1 => by
    have h := num_range s i j
    have hb := bt_range s ((i + j : Nat) : Int)
    rw [Int.pow_succ]
    unfold num
    omega
theorem pow_le (j : Nat) (hj : j ≤ 6) : (256 : Int) ^ j ≤ 281474976710656 := by
  match j, hj with
  | 0, _ => decide
  | 1, _ => decide
  | 2, _ => decide
  | 3, _ => decide
  | 4, _ => decide
  | 5, _ => decide
  | 6, _ => decide
  | j + 7, h => omega
theorem num_l0 (s : ByteArray) (i n : Nat) (hn : n ≤ 7) (h : i + n ≤ s.size) (hs : s.size ≤ 4611686018427387904) : ∀ (m j : Nat), j + m = n →
    Ev (fun k => octet_number.l0 k s (i : Int) (n : Int) (num s i j) (n : Int) (j : Int)) (num s i n, ((i + n : Nat) : Int), 0)
  | 0, j, hj => by
    refine Ev.step (fun k => by rw [octet_number.l0]) (Ev.neg (by omega) (Ev.some _ fun _ => ?_))
    rw [w64 (by omega) (by omega), show j = n by omega]; simp
  | m + 1, j, hj => by
    have hr := num_range s i j
    have hp := pow_le j (by omega)
    have hb := bt_range s ((i + j : Nat) : Int)
    refine Ev.step (fun k => by rw [octet_number.l0]) ?_
    rw [w64 (x := (i : Int) + (j : Int)) (by omega) (by omega), w64 (x := (j : Int) + 1) (by omega) (by omega)]
    refine Ev.pos (by omega) (Ev.pos (by omega) (Ev.pos (by omega) ?_))
    rw [show ((i : Int) + (j : Int)) = ((i + j : Nat) : Int) by omega, bits_next _ _ hr.1 (by omega) hb.1 hb.2]
    exact num_l0 s i n hn h hs m (j + 1) (by omega)
theorem number_yes (s : ByteArray) (i n : Nat) (hn : n ≤ 7) (h : i + n ≤ s.size) (hs : s.size ≤ 4611686018427387904) : Ev (fun k => octet_number.f k s (i : Int) (n : Int)) (num s i n, ((i + n : Nat) : Int), 0) := by
  unfold octet_number.f
  refine Ev.neg (by omega) (Ev.neg (by omega) (Ev.step (fun k => by rw [octet_number.j0]) (Ev.neg ?_ ?_)))
  · rw [w64 (by omega) (by omega)]; simp; omega
  · exact num_l0 s i n hn h hs n 0 (by omega)
theorem number_no (s : ByteArray) (i : Int) (n : Nat) (hn : n ≤ 7) (h : ¬ (0 ≤ i ∧ i + n ≤ s.size)) (hs : s.size ≤ 4611686018427387904) : Ev (fun k => octet_number.f k s i (n : Int)) (0, 0, 300) := by
  unfold octet_number.f
  by_cases h0 : i < 0
  · exact Ev.pos h0 (Ev.step (fun k => by rw [octet_number.j0]) (Ev.pos rfl (Ev.some _ fun _ => rfl)))
  · refine Ev.neg h0 ?_
    by_cases h1 : i > (s.size : Int)
    · exact Ev.pos h1 (Ev.step (fun k => by rw [octet_number.j0]) (Ev.pos rfl (Ev.some _ fun _ => rfl)))
    · refine Ev.neg h1 (Ev.step (fun k => by rw [octet_number.j0]) (Ev.pos ?_ (Ev.some _ fun _ => rfl)))
      rw [w64 (by omega) (by omega)]; simp; omega
theorem u16_yes (s : ByteArray) (i : Nat) (h : i + 2 ≤ s.size) (hs : s.size ≤ 4611686018427387904) : Ev (fun k => octet_U16.f k s (i : Int)) (num s i 2, ((i + 2 : Nat) : Int), 0) := by
  unfold octet_U16.f
  exact Ev.bind (number_yes s i 2 (by decide) h hs) (Ev.some _ fun _ => rfl)
theorem u16_no (s : ByteArray) (i : Int) (h : ¬ (0 ≤ i ∧ i + 2 ≤ s.size)) (hs : s.size ≤ 4611686018427387904) : Ev (fun k => octet_U16.f k s i) (0, 0, 300) := by
  unfold octet_U16.f
  exact Ev.bind (number_no s i 2 (by decide) h hs) (Ev.some _ fun _ => rfl)
theorem num2 (s : ByteArray) (i : Nat) : num s i 2 = (bytesOf s).getD i 0 * 256 + (bytesOf s).getD (i + 1) 0 := by
  show (0 * 256 + bt s ((i + 0 : Nat) : Int)) * 256 + bt s ((i + 1 : Nat) : Int) = _
  rw [bt_bytes, bt_bytes]; simp
end Go.Proofs.Ytndcjleadggibaa.OctS
