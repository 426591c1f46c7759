/- The pure statement of OptFinds: the first OPT of the additionals is taken apart, all are counted. -/
import Derived.Test.YtndcjleadggibaaOptFind
import Derived.Test.YtndcjleadggibaaPOptx9
namespace Go.Proofs.Ytndcjleadggibaa.Pure
open Go.RowKit Go.Proofs.Ytndcjleadggibaa.POpt Go.Proofs.YtndcjleadggibaaW.PrintWords Go.Proofs.Ytndcjleadggibaa.Pu Go.Proofs.Ytndcjleadggibaa.OctS Go.Proofs.Ytndcjleadggibaa.OptS
set_option linter.unusedVariables false
def qa : Q := ⟨(⟨#[0]⟩ : ByteArray), 1, 0, 0, (⟨#[97, 98, 99, 100]⟩ : ByteArray)⟩
def qr (s : Int) (i : Nat) : Q := ⟨(⟨#[0]⟩ : ByteArray), 41, s + i, 0, strOfNums (osB [])⟩
/-- The additionals: so many others, so many OPTs, each with another one behind. -/
def ars (s : Int) (j i : Nat) : List Q := List.replicate j qa ++ (List.range i).flatMap fun i => [qr s i, qa]
theorem ars_next (s : Int) (j i : Nat) : ars s j i ++ [qr s i, qa] = ars s j (i + 1) := by
  unfold ars; rw [List.range_succ, List.flatMap_append, List.append_assoc]; rfl
theorem ars_len (s : Int) (j : Nat) : ∀ i : Nat, (ars s j i).length = j + 2 * i
  | 0 => by simp [ars]
  | i + 1 => by rw [← ars_next, List.length_append, ars_len s j i, List.length_cons, List.length_cons, List.length_nil]; omega
theorem ars_data (s : Int) (j i : Nat) : ∀ r ∈ ars s j i, r.f4.size ≤ 4000000000000 := by
  intro r h
  unfold ars at h
  rcases List.mem_append.1 h with h | h
  · rw [List.eq_of_mem_replicate h]; decide
  · obtain ⟨i, _, h⟩ := List.mem_flatMap.1 h
    simp only [List.mem_cons, List.not_mem_nil, or_false] at h
    rcases h with rfl | rfl
    · show (strOfNums _).size ≤ _; rw [nums_size]; decide
    · decide
theorem put_qr (s : Int) (i : Nat) (h0 : 0 ≤ s) (h1 : s + i ≤ 65535) : putR (s + i) 0 0 false 0 [] = ((⟨#[0]⟩ : ByteArray), 41, s + i, 0, strOfNums (osB []), 0) := by
  unfold putR headOk
  rw [decide_eq_true (show 0 ≤ s + (i : Int) by omega), decide_eq_true h1]; rfl
theorem get_qr (s : Int) (i : Nat) (h0 : 0 ≤ s) (h1 : s + i ≤ 65535) : getQ (qr s i) = (s + i, 0, 0, false, 0, [], 0) := by
  have e : optsOf (strOfNums (osB [])) = ([], true) := by
    unfold optsOf
    rw [bytesOf_nums (osB_range _), parse_osB _ rfl]; rfl
  unfold getQ qr getR getB
  simp only
  rw [e, decide_eq_true (show 0 ≤ s + (i : Int) by omega), decide_eq_true h1]; rfl
theorem find_qa : ∀ (j : Nat) (l : List Q) (m : Int) (o : G6), findR (List.replicate j qa ++ l) m o = findR l m o
  | 0, l, m, o => rfl
  | j + 1, l, m, o => by
    rw [List.replicate_succ, List.cons_append, findR, if_neg (show ¬ qa.f1 = 41 by decide)]; exact find_qa j l m o
theorem find_qs (s : Int) (o : G6) : ∀ (is : List Nat) (m : Int), 0 < m → findR (is.flatMap fun i => [qr s i, qa]) m o = seven o (m + is.length)
  | [], m, h => by simp [findR]
  | i :: is, m, h => by
    rw [List.flatMap_cons]
    show findR (qr s i :: qa :: is.flatMap _) m o = _
    rw [findR, if_pos (show (qr s i).f1 = 41 from rfl), if_neg (by omega), findR, if_neg (show ¬ qa.f1 = 41 by decide), find_qs s o is (m + 1) (by omega)]
    rw [List.length_cons]; congr 1; push_cast; omega
theorem find_ars (s : Int) (j k : Nat) (h0 : 0 ≤ s) (h1 : s ≤ 65535) : findR (ars s j k) 0 out0 = if k = 0 then seven out0 0 else seven (s, 0, 0, false, 0, []) k := by
  unfold ars
  rw [find_qa]
  cases k with
  | zero => rfl
  | succ k =>
    rw [if_neg (by omega), List.range_succ_eq_map]
    simp only [List.flatMap_cons, List.cons_append, List.nil_append]
    rw [findR, if_pos (show (qr s 0).f1 = 41 from rfl), if_pos rfl, findR, if_neg (show ¬ qa.f1 = 41 by decide), find_qs s _ _ _ (by omega), get_qr s 0 h0 (by omega)]
    simp only [six, List.length_map, List.length_range]
    congr 1
    · simp
    · push_cast; omega
theorem finds_l1 (s : Int) (j K : Nat) (h0 : 0 ≤ s) (h1 : s ≤ 4095) (hj : j ≤ 3) (hK : K ≤ 7) : ∀ (n i : Nat), i + n = K → ∀ x y : List Q, x.length = i → y.length = i →
    Ev (fun k => wimplelaw8_OptFinds.l1 k (K : Int) s (i : Int) 0 false 0 false false false false 0 0 x y (ars s j i) (⟨#[0]⟩ : ByteArray) 1 0 0 (⟨#[97, 98, 99, 100]⟩ : ByteArray)) true
  | 0, i, h, x, y, hx, hy => by
    obtain rfl : i = K := by omega
    have F := find_ev 0 false 0 false false false false 0 0 [] x y (ars s j i) (by rw [ars_len]; omega) (ars_data s j i)
    rw [find_ars s j i h0 (by omega)] at F
    refine Ev.step (fun k => by rw [wimplelaw8_OptFinds.l1]) (Ev.neg (by omega) (Ev.bind F ?_))
    by_cases c : i = 0
    · subst c
      exact Ev.pos rfl (Ev.pos rfl (Ev.bind (same_refl _ _ _ _ _ _ (by show (0 : Nat) ≤ _; omega)) (Ev.pos rfl (Ev.call (num_eq _) (Ev.some _ fun _ => rfl)))))
    · rw [if_neg c]
      exact Ev.pos rfl (Ev.neg (by omega) (Ev.pos (by omega) (Ev.bind (same_refl _ _ _ _ _ _ (by show (0 : Nat) ≤ _; omega)) (Ev.pos rfl (Ev.call (num_eq _) (Ev.some _ fun _ => rfl))))))
  | n + 1, i, h, x, y, hx, hy => by
    have P := put_ev (s + i) 0 0 false 0 [] (by simp)
    rw [put_qr s i h0 (by omega)] at P
    refine Ev.step (fun k => by rw [wimplelaw8_OptFinds.l1]) (Ev.pos (by omega) ?_)
    rw [w64 (x := s + (i : Int)) (by omega) (by omega), w64 (x := (i : Int) + 1) (by omega) (by omega)]
    refine Ev.bind P (Ev.call rfl (Ev.pos (by rw [ars_len]; simp; omega) (Ev.pos (by omega) (Ev.pos (by omega) ?_))))
    have := finds_l1 s j K h0 h1 hj hK n (i + 1) (by omega) (x ++ [qr s i]) (y ++ [qr s i]) (by simp [hx]) (by simp [hy])
    rw [← ars_next] at this
    exact this
theorem finds_l0 (a1 s : Int) (K : Nat) (h0 : 0 ≤ s) (h1 : s ≤ 4095) (hK : K ≤ 7) : ∀ (n i : Nat), (i + n : Nat) = a1 % 4 → 
    Ev (fun k => wimplelaw8_OptFinds.l0 k a1 (K : Int) s (i : Int) 0 false 0 false false false false 0 0 (List.replicate i qa) (⟨#[0]⟩ : ByteArray) 1 0 0 (⟨#[97, 98, 99, 100]⟩ : ByteArray)) true
  | 0, i, h => by
    refine Ev.step (fun k => by rw [wimplelaw8_OptFinds.l0]) ?_
    rw [and_3]
    have := finds_l1 s i K h0 h1 (by omega) hK K 0 (by omega) [] [] rfl rfl
    rw [show ars s i 0 = List.replicate i qa by unfold ars; simp] at this
    exact Ev.neg (by omega) this
  | n + 1, i, h => by
    refine Ev.step (fun k => by rw [wimplelaw8_OptFinds.l0]) ?_
    rw [and_3, w64 (x := (i : Int) + 1) (by omega) (by omega)]
    have := finds_l0 a1 s K h0 h1 hK n (i + 1) (by omega)
    rw [List.replicate_succ'] at this
    exact Ev.pos (by omega) (Ev.pos (by simp; omega) this)
theorem OptFinds : wimplelaw8_OptFinds.Pure := by
  intro a0 a1 a2 _ _ _
  refine Ev.rounds ?_
  unfold wimplelaw8_OptFinds.f
  refine Ev.bind awake_ev (Ev.pos rfl ?_)
  rw [and_7, and_4095]
  obtain ⟨K, hK⟩ := Int.eq_ofNat_of_zero_le (show 0 ≤ a0 % 8 by omega)
  obtain ⟨j, hj⟩ := Int.eq_ofNat_of_zero_le (show 0 ≤ a1 % 4 by omega)
  rw [hK]
  exact finds_l0 a1 (a2 % 4096) K (by omega) (by omega) (by omega) j 0 (by omega)
end Go.Proofs.Ytndcjleadggibaa.Pure
