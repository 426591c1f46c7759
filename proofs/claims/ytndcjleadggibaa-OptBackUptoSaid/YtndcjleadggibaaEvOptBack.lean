/- The pure statement of OptBack: an OPT there and back, a record there and back. -/
import Derived.Test.YtndcjleadggibaaOptFind
import Derived.Test.YtndcjleadggibaaOkOpt
import Derived.Test.YtndcjleadggibaaPOptx7
namespace Go.Proofs.Ytndcjleadggibaa.Pure
open Go.RowKit Go.Proofs.Ytndcjleadggibaa.POpt Go.Proofs.YtndcjleadggibaaW.PrintWords Go.Proofs.Ytndcjleadggibaa.Pu Go.Proofs.Ytndcjleadggibaa.OctS Go.Proofs.Ytndcjleadggibaa.OptS Go.Proofs.Ytndcjleadggibaa.OkOpt Go.Proofs.Ytndcjleadggibaa.OpenKd
set_option linter.unusedVariables false
theorem p16_two (a b : Int) (ha : 0 ≤ a ∧ a ≤ 255) (hb : 0 ≤ b ∧ b ≤ 255) : p16 (a * 256 + b) = [a, b] := by
  unfold p16
  rw [show ((a * 256 + b) / 256) % 256 = a by omega, show (a * 256 + b) % 256 = b by omega]
theorem parse_inv : ∀ (n : Nat) (l : List Int), l.length ≤ n → (∀ y ∈ l, 0 ≤ y ∧ y ≤ 255) → ∀ os, parse l = some os → osB os = l ∧ os.all oOk = true
  | _, [], _, _, os, h => by
    rw [parse] at h
    cases h
    exact ⟨rfl, rfl⟩
  | 0, _ :: _, hn, _, _, _ => by simp at hn
  | n + 1, a :: b :: c :: d :: rest, hn, hr, os, h => by
    rw [parse] at h
    have ha := hr a (by simp)
    have hb := hr b (by simp)
    have hc := hr c (by simp)
    have hd := hr d (by simp)
    split at h
    · rename_i hw
      rw [Option.map_eq_some_iff] at h
      obtain ⟨os', h', rfl⟩ := h
      have hr' : ∀ y ∈ rest, 0 ≤ y ∧ y ≤ 255 := fun y hy => hr y (by simp [hy])
      obtain ⟨i1, i2⟩ := parse_inv n (rest.drop (c * 256 + d).toNat) (by rw [List.length_drop]; simp at hn; omega) (fun y hy => hr' y (List.mem_of_mem_drop hy)) os' h'
      have ht : ∀ y ∈ rest.take (c * 256 + d).toNat, 0 ≤ y ∧ y ≤ 255 := fun y hy => hr' y (List.mem_of_mem_take hy)
      have hz : (strOfNums (rest.take (c * 256 + d).toNat)).size = (c * 256 + d).toNat := by rw [nums_size, List.length_take]; omega
      constructor
      · rw [osB_cons, i1]
        show p16 (a * 256 + b) ++ p16 (((strOfNums (rest.take (c * 256 + d).toNat)).size : Nat) : Int) ++ bytesOf (strOfNums (rest.take (c * 256 + d).toNat)) ++ _ = _
        rw [hz, show (((c * 256 + d).toNat : Nat) : Int) = c * 256 + d by omega, p16_two a b ha hb, p16_two c d hc hd, bytesOf_nums ht]
        simp
      · rw [List.all_cons, i2, Bool.and_true]
        refine oOk_iff.2 ⟨?_, ?_, ?_⟩
        · show 0 ≤ a * 256 + b; omega
        · show a * 256 + b ≤ 65535; omega
        · show (strOfNums _).size ≤ 65535; rw [hz]; omega
    · cases h
  | n + 1, [a], _, _, os, h => by rw [parse_short (by simp) (by simp)] at h; cases h
  | n + 1, [a, b], _, _, os, h => by rw [parse_short (by simp) (by simp)] at h; cases h
  | n + 1, [a, b, c], _, _, os, h => by rw [parse_short (by simp) (by simp)] at h; cases h
theorem optsOf_yes {s : ByteArray} (h : (optsOf s).2 = true) : osB (optsOf s).1 = bytesOf s ∧ (optsOf s).1.all oOk = true := by
  unfold optsOf at *
  cases hp : parse (bytesOf s) with
  | none => rw [hp] at h; cases h
  | some os =>
    have := parse_inv _ _ (Nat.le_refl _) (fun y hy => byte_range hy) os hp
    exact this
theorem optsOf_length (s : ByteArray) : (optsOf s).1.length ≤ s.size := by
  by_cases h : (optsOf s).2 = true
  · have h1 := (optsOf_yes h).1
    have : ∀ l : List O, l.length ≤ (osB l).length := by
      intro l
      induction l with
      | nil => simp
      | cons x l ih => rw [osB_cons, List.length_append, oB_length, List.length_cons]; omega
    have h2 := this (optsOf s).1
    rw [h1, bytesOf_length] at h2
    exact h2
  · unfold optsOf at *
    cases hp : parse (bytesOf s) with
    | none => simp [parsed]
    | some os => rw [hp] at h; simp [parsed] at h
theorem ttl_parts (e v z : Int) (d : Bool) (he : 0 ≤ e ∧ e ≤ 255) (hv : 0 ≤ v ∧ v ≤ 255) (hz : 0 ≤ z ∧ z ≤ 32767) :
    ttlOf e v d z / 16777216 = e ∧ ttlOf e v d z / 65536 % 256 = v ∧ (ttlOf e v d z / 32768 % 2 == 1) = d ∧ ttlOf e v d z % 32768 = z ∧ 0 ≤ ttlOf e v d z ∧ ttlOf e v d z ≤ 4294967295 := by
  unfold ttlOf
  cases d with
  | false =>
    simp only [Bool.false_eq_true, if_false]
    refine ⟨by omega, by omega, ?_, by omega, by omega, by omega⟩
    rw [beq_eq_false_iff_ne]; omega
  | true =>
    simp only [if_true]
    refine ⟨by omega, by omega, ?_, by omega, by omega, by omega⟩
    rw [beq_iff_eq]; omega
theorem ttl_join (t : Int) (h0 : 0 ≤ t) (h1 : t ≤ 4294967295) : ttlOf (t / 16777216) (t / 65536 % 256) (t / 32768 % 2 == 1) (t % 32768) = t := by
  unfold ttlOf
  by_cases h : t / 32768 % 2 = 1
  · rw [beq_iff_eq.2 h, if_pos rfl]; omega
  · rw [beq_eq_false_iff_ne.2 h]; simp only [Bool.false_eq_true, if_false]; omega
theorem back_j0 (x1 : Q) (hs : x1.f4.size ≤ 1048576) : Ev (fun k => wimplelaw8_OptBack.j0 k x1.f0 x1.f1 x1.f2 x1.f3 x1.f4) true := by
  refine Ev.step (fun k => by rw [wimplelaw8_OptBack.j0]) (Ev.bind (get_ev x1.f0 x1.f1 x1.f2 x1.f3 x1.f4 (by omega)) (Ev.call (num_eq _) ?_))
  unfold getR
  by_cases hB : getB x1.f0 x1.f1 x1.f2 x1.f3 x1.f4 = true
  · rw [if_pos hB]
    unfold getB at hB
    simp only [Bool.and_eq_true, decide_eq_true_eq] at hB
    obtain ⟨h1, h2, h3, ⟨h4, h5⟩, ⟨h6, h7⟩, h8⟩ := hB
    obtain ⟨j1, j2⟩ := optsOf_yes h1
    have hl := optsOf_length x1.f4
    have P := put_ev x1.f2 (x1.f3 / 16777216) (x1.f3 / 65536 % 256) (x1.f3 / 32768 % 2 == 1) (x1.f3 % 32768) (optsOf x1.f4).1 (by omega)
    have e : putR x1.f2 (x1.f3 / 16777216) (x1.f3 / 65536 % 256) (x1.f3 / 32768 % 2 == 1) (x1.f3 % 32768) (optsOf x1.f4).1 = (x1.f0, x1.f1, x1.f2, x1.f3, x1.f4, 0) := by
      unfold putR osOk headOk
      rw [j1, j2, bytesOf_length, decide_eq_true h8, decide_eq_true h4, decide_eq_true h5, decide_eq_true (show 0 ≤ x1.f3 / 16777216 by omega), decide_eq_true (show x1.f3 / 16777216 ≤ 255 by omega),
        decide_eq_true (show 0 ≤ x1.f3 / 65536 % 256 by omega), decide_eq_true (show x1.f3 / 65536 % 256 ≤ 255 by omega), decide_eq_true (show 0 ≤ x1.f3 % 32768 by omega), decide_eq_true (show x1.f3 % 32768 ≤ 32767 by omega)]
      rw [if_pos (by decide)]
      unfold putYes
      rw [ttl_join _ h6 h7, j1, nums_bytesOf, h2, h3]
    rw [e] at P
    refine Ev.pos rfl (Ev.bind P (Ev.call (num_eq _) (Ev.pos rfl (Ev.some _ fun _ => ?_))))
    simp
  · rw [if_neg hB]
    exact Ev.neg (by decide) (Ev.some _ fun _ => rfl)
theorem optBack_ev (x0 : S24) (x1 : Q) (o0 : ok24 x0) (o1 : ok26 x1) (hb : bk24 x0 + bk26 x1 ≤ 1048576) :
    Ev (fun k => wimplelaw8_OptBack.f k x0.f0 x0.f1 x0.f2 x0.f3 x0.f4 x0.f5 x1.f0 x1.f1 x1.f2 x1.f3 x1.f4) true := by
  have hlen : x0.f5.length ≤ 1048576 := by
    have h1 : bks bk52 x0.f5 ≤ 1048576 := by unfold bk24 at hb; omega
    have : ∀ l : List O, l.length ≤ (l.map bk52).sum := by
      intro l
      induction l with
      | nil => simp
      | cons x l ih => rw [List.map_cons, List.sum_cons, List.length_cons]; have : 1 ≤ bk52 x := by unfold bk52; omega
                       omega
    have := this x0.f5
    unfold bks at h1
    omega
  have hs : x1.f4.size ≤ 1048576 := by unfold bk26 at hb; omega
  have J := back_j0 x1 hs
  unfold wimplelaw8_OptBack.f
  refine Ev.bind awake_ev (Ev.pos rfl (Ev.bind (put_ev x0.f0 x0.f1 x0.f2 x0.f3 x0.f4 x0.f5 (by omega)) (Ev.call (num_eq _) ?_)))
  unfold putR
  by_cases hB : (headOk x0.f0 x0.f1 x0.f2 x0.f4 && osOk x0.f5) = true
  · rw [if_pos hB]
    unfold headOk osOk at hB
    simp only [Bool.and_eq_true, decide_eq_true_eq] at hB
    obtain ⟨⟨⟨h1, h2⟩, ⟨h3, h4⟩, ⟨h5, h6⟩, h7, h8⟩, h9, h10⟩ := hB
    obtain ⟨t1, t2, t3, t4, t5, t6⟩ := ttl_parts x0.f1 x0.f2 x0.f4 x0.f3 ⟨h3, h4⟩ ⟨h5, h6⟩ ⟨h7, h8⟩
    have e2 : optsOf (strOfNums (osB x0.f5)) = (x0.f5, true) := by
      unfold optsOf
      rw [bytesOf_nums (osB_range _), parse_osB _ h9]; rfl
    have G := get_ev (⟨#[0]⟩ : ByteArray) 41 x0.f0 (ttlOf x0.f1 x0.f2 x0.f3 x0.f4) (strOfNums (osB x0.f5)) (by rw [nums_size]; omega)
    have e : getR (⟨#[0]⟩ : ByteArray) 41 x0.f0 (ttlOf x0.f1 x0.f2 x0.f3 x0.f4) (strOfNums (osB x0.f5)) = (x0.f0, x0.f1, x0.f2, x0.f3, x0.f4, x0.f5, 0) := by
      unfold getR getB
      rw [e2, nums_size, decide_eq_true h1, decide_eq_true h2, decide_eq_true t5, decide_eq_true t6, decide_eq_true h10]
      rw [if_pos (by simp)]
      unfold getYes
      rw [t1, t2, t3, t4]
    rw [e] at G
    refine Ev.pos rfl (Ev.bind G (Ev.call (num_eq _) (Ev.pos rfl (Ev.bind (same_refl _ _ _ _ _ _ (by show x0.f5.length ≤ _; omega)) (Ev.pos rfl (Ev.pos rfl (Ev.pos ((root_iff _).2 rfl) J)))))))
  · rw [if_neg hB]
    exact Ev.neg (by decide) J
end Go.Proofs.Ytndcjleadggibaa.Pure
