/- What opt.options and opt.Get answer, from some number of rounds on. -/
import Derived.Test.YtndcjleadggibaaOptSpec
import Derived.Test.YtndcjleadggibaaOctS
namespace Go.Proofs.Ytndcjleadggibaa.OptS
open Go.RowKit Go.Proofs.Ytndcjleadggibaa.POpt Go.Proofs.YtndcjleadggibaaW.PrintWords Go.Proofs.Ytndcjleadggibaa.Pu Go.Proofs.Ytndcjleadggibaa.OctS
set_option linter.unusedVariables false
/-- Options out of bytes; none: they are none. -/
def parse : List Int → Option (List O)
  | [] => some []
  | a :: b :: c :: d :: rest => if (c * 256 + d).toNat ≤ rest.length then (parse (rest.drop (c * 256 + d).toNat)).map fun os => ⟨a * 256 + b, strOfNums (rest.take (c * 256 + d).toNat)⟩ :: os else none
  | _ => none
termination_by l => l.length
decreasing_by simp only [List.length_drop, List.length_cons]; omega
def parsed (acc : List O) : Option (List O) → List O × Bool
  | some os => (acc ++ os, true)
  | none => ([], false)
theorem four (l : List Int) (i : Nat) (h : i + 4 ≤ l.length) : l.drop i = l.getD i 0 :: l.getD (i + 1) 0 :: l.getD (i + 2) 0 :: l.getD (i + 3) 0 :: l.drop (i + 4) := by
  rw [drop_cons l 0 i (by omega), drop_cons l 0 (i + 1) (by omega), drop_cons l 0 (i + 2) (by omega), drop_cons l 0 (i + 3) (by omega)]
theorem parse_short {l : List Int} (h0 : l ≠ []) (h : l.length < 4) : parse l = none := by
  match l, h0, h with
  | [_], _, _ => rw [parse]; all_goals simp
  | [_, _], _, _ => rw [parse]; all_goals simp
  | [_, _, _], _, _ => rw [parse]; all_goals simp
  | [], h0, _ => exact absurd rfl h0
  | _ :: _ :: _ :: _ :: _, _, h => simp at h; omega
theorem options_l0 (s : ByteArray) (hs : s.size ≤ 4000000000000) : ∀ (d i : Nat), s.size - i ≤ d → i ≤ s.size → ∀ acc : List O, acc.length ≤ i →
    Ev (fun k => opt_options.l0 k s acc (i : Int)) (parsed acc (parse ((bytesOf s).drop i))) := by
  intro d
  induction d with
  | zero =>
    intro i hd hi acc ha
    rw [List.drop_eq_nil_of_le (by rw [bytesOf_length]; omega)]
    refine Ev.step (fun k => by rw [opt_options.l0]) (Ev.neg (by omega) (Ev.some _ fun _ => ?_))
    rw [parse]; simp [parsed]
  | succ d ih =>
    intro i hd hi acc ha
    by_cases he : i = s.size
    · rw [List.drop_eq_nil_of_le (by rw [bytesOf_length]; omega)]
      refine Ev.step (fun k => by rw [opt_options.l0]) (Ev.neg (by omega) (Ev.some _ fun _ => ?_))
      rw [parse]; simp [parsed]
    · have hlen := bytesOf_length s
      refine Ev.step (fun k => by rw [opt_options.l0]) (Ev.pos (by omega) ?_)
      by_cases h4 : i + 4 ≤ s.size
      · refine Ev.bind (u16_yes s i (by omega) (by omega)) (Ev.bind (u16_yes s (i + 2) (by omega) (by omega)) ?_)
        have hr := num_range s (i + 2) 2
        rw [four _ _ (by omega), parse]
        rw [show i + 2 + 1 = i + 3 by omega] at *
        have hn : num s (i + 2) 2 = (bytesOf s).getD (i + 2) 0 * 256 + (bytesOf s).getD (i + 3) 0 := num2 s (i + 2)
        have hc : num s i 2 = (bytesOf s).getD i 0 * 256 + (bytesOf s).getD (i + 1) 0 := num2 s i
        rw [← hn, ← hc]
        generalize num s (i + 2) 2 = n at *
        generalize num s i 2 = c at *
        obtain ⟨n, rfl⟩ := Int.eq_ofNat_of_zero_le hr.1
        have hn2 : n < 65536 := by have h1 := hr.2; have h2 : (256 : Int) ^ 2 = 65536 := rfl; omega
        dsimp only
        refine Ev.pos rfl ?_
        rw [w64 (x := (s.size : Int) - _) (by omega) (by omega), w64 (x := (i : Int) + 4) (by omega) (by omega), w64 (x := ((i + 2 + 2 : Nat) : Int) + (n : Int)) (by omega) (by omega), List.length_drop, hlen]
        simp only [Int.toNat_natCast]
        by_cases hw : n ≤ s.size - (i + 4)
        · refine Ev.neg (by omega) (Ev.neg (by omega) (Ev.pos (by omega) (Ev.pos (by omega) (Ev.pos (by omega) (Ev.pos (by omega) ?_)))))
          rw [if_pos hw]
          have ih := ih (i + 4 + n) (by omega) (by omega) (acc ++ [⟨c, s.extract (i + 4) (i + 4 + n)⟩]) (by rw [List.length_append]; simp; omega)
          rw [show ((i + 2 + 2 : Nat) : Int) + (n : Int) = ((i + 4 + n : Nat) : Int) by omega, show i + 2 + 2 = i + 4 by omega, Int.toNat_natCast, List.drop_drop]
          have hx : strOfNums (((bytesOf s).drop (i + 4)).take n) = s.extract (i + 4) (i + 4 + n) := by
            apply bytesOf_inj
            rw [bytesOf_nums (fun x hx => byte_range (List.mem_of_mem_drop (List.mem_of_mem_take hx))), bytesOf_extract, List.drop_take]
            congr 1; omega
          rw [hx]
          have e : parsed acc ((parse ((bytesOf s).drop (i + 4 + n))).map fun os => (⟨c, s.extract (i + 4) (i + 4 + n)⟩ : O) :: os) = parsed (acc ++ [⟨c, s.extract (i + 4) (i + 4 + n)⟩]) (parse ((bytesOf s).drop (i + 4 + n))) := by
            cases parse ((bytesOf s).drop (i + 4 + n)) with
            | none => rfl
            | some os => simp [parsed]
          rw [e]
          exact ih
        · rw [if_neg hw]
          exact Ev.pos (by omega) (Ev.some _ fun _ => rfl)
      · rw [parse_short (by rw [Ne, List.drop_eq_nil_iff]; omega) (by rw [List.length_drop]; omega)]
        by_cases h2 : i + 2 ≤ s.size
        · refine Ev.bind (u16_yes s i (by omega) (by omega)) (Ev.bind (u16_no s ((i + 2 : Nat) : Int) (by omega) (by omega)) ?_)
          dsimp only
          exact Ev.neg (by simp) (Ev.some _ fun _ => rfl)
        · refine Ev.bind (u16_no s _ (by omega) (by omega)) ?_
          dsimp only
          by_cases h0 : 2 ≤ s.size
          · refine Ev.bind (u16_yes s 0 (by omega) (by omega)) ?_
            dsimp only
            refine Ev.pos rfl ?_
            have hr := num_range s 0 2
            generalize num s 0 2 = n at *
            rw [w64 (x := (i : Int) + 4) (by omega) (by omega)]
            by_cases hg : n > wrap64 ((s.size : Int) - ((0 + 2 : Nat) : Int))
            · exact Ev.pos hg (Ev.some _ fun _ => rfl)
            · exact Ev.neg hg (Ev.pos (by omega) (Ev.some _ fun _ => rfl))
          · refine Ev.bind (u16_no s 0 (by omega) (by omega)) ?_
            dsimp only
            exact Ev.neg (by simp) (Ev.some _ fun _ => rfl)
def optsOf (s : ByteArray) : List O × Bool := parsed [] (parse (bytesOf s))
theorem options_ev (s : ByteArray) (hs : s.size ≤ 4000000000000) : Ev (fun k => opt_options.f k s) (optsOf s) := by
  have := options_l0 s hs s.size 0 (by omega) (by omega) [] (by simp)
  exact this
abbrev G := Int × Int × Int × Bool × Int × List O × Int
def getNo : G := (0, 0, 0, false, 0, [], 800)
def getYes (c t : Int) (os : List O) : G := (c, t / 16777216, t / 65536 % 256, t / 32768 % 2 == 1, t % 32768, os, 0)
def getB (n : ByteArray) (t c l : Int) (s : ByteArray) : Bool := (optsOf s).2 && (decide (n = ⟨#[0]⟩) && (decide (t = 41) && (decide (0 ≤ c) && decide (c ≤ 65535) && (decide (0 ≤ l) && decide (l ≤ 4294967295) && decide (s.size ≤ 65535)))))
def getR (n : ByteArray) (t c l : Int) (s : ByteArray) : G := if getB n t c l s then getYes c l (optsOf s).1 else getNo
theorem root_iff (n : ByteArray) : n.toList = ([0] : List UInt8) ↔ n = ⟨#[0]⟩ := by
  constructor
  · intro h; apply toList_inj; rw [h, toList_data]
  · rintro rfl; rw [toList_data]
theorem get_ev (n : ByteArray) (t c l : Int) (s : ByteArray) (hs : s.size ≤ 4000000000000) : Ev (fun k => opt_Get.f k n t c l s) (getR n t c l s) := by
  unfold opt_Get.f getR getB
  refine Ev.bind (options_ev s hs) ?_
  by_cases h1 : (optsOf s).2 = true
  · refine Ev.pos h1 ?_
    by_cases h2 : n = ⟨#[0]⟩
    · refine Ev.pos ((root_iff n).2 h2) ?_
      by_cases h3 : t = 41
      · refine Ev.pos h3 (Ev.call (in_eq _ _) ?_)
        by_cases h4 : (decide (0 ≤ c) && decide (c ≤ 65535)) = true
        · rw [h4]
          refine Ev.pos rfl (Ev.call (in_eq _ _) ?_)
          by_cases h5 : (decide (0 ≤ l) && decide (l ≤ 4294967295)) = true
          · rw [h5]
            refine Ev.pos rfl ?_
            by_cases h6 : s.size ≤ 65535
            · refine Ev.neg (by omega) (Ev.some _ fun _ => ?_)
              rw [h1, decide_eq_true h2, decide_eq_true h3, decide_eq_true h6, and_255, and_1, and_32767]; rfl
            · refine Ev.pos (by omega) (Ev.some _ fun _ => ?_)
              rw [decide_eq_false h6]; simp [getNo]
          · rw [show (decide (0 ≤ l) && decide (l ≤ 4294967295)) = false by simpa using h5]
            refine Ev.neg (by simp) (Ev.some _ fun _ => ?_)
            simp [getNo]
        · rw [show (decide (0 ≤ c) && decide (c ≤ 65535)) = false by simpa using h4]
          refine Ev.neg (by simp) (Ev.some _ fun _ => ?_)
          simp [getNo]
      · refine Ev.neg h3 (Ev.some _ fun _ => ?_)
        simp [getNo, h3]
    · refine Ev.neg (fun e => h2 ((root_iff n).1 e)) (Ev.some _ fun _ => ?_)
      simp [getNo, h2]
  · refine Ev.neg h1 (Ev.some _ fun _ => ?_)
    rw [show (optsOf s).2 = false by simpa using h1]; simp [getNo]
end Go.Proofs.Ytndcjleadggibaa.OptS
