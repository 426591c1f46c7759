/- What opt.Put answers, from some number of rounds on. -/
import Derived.Test.YtndcjleadggibaaOptSpec
namespace Go.Proofs.Ytndcjleadggibaa.OptS
open Go.RowKit Go.Proofs.Ytndcjleadggibaa.POpt Go.Proofs.YtndcjleadggibaaW.PrintWords Go.Proofs.Ytndcjleadggibaa.Pu
set_option linter.unusedVariables false
theorem osB_le (l : List O) (i : Nat) : (osB (l.take i)).length ≤ (osB l).length := by
  have : osB l = osB (l.take i) ++ osB (l.drop i) := by rw [← osB_app, List.take_append_drop]
  rw [this, List.length_append]; omega
theorem osB_next (l : List O) (i : Nat) (h : i < l.length) : osB (l.take (i + 1)) = osB (l.take i) ++ oB (rd_T52 l i) := by
  rw [take_snoc l z52 i h, osB_app]
  show _ ++ (oB _ ++ []) = _
  rw [List.append_nil]; rfl
theorem nums_size (xs : List Int) : (strOfNums xs).size = xs.length := Go.strOfNums_size xs
theorem put_data (a b : List Int) (x : O) (ha : ∀ y ∈ a, 0 ≤ y ∧ y ≤ 255) (hb : ∀ y ∈ b, 0 ≤ y ∧ y ≤ 255) (xs : List Int) : xs ++ bytesOf (strOfNums a ++ strOfNums b) ++ bytesOf x.f1 = xs ++ (a ++ b ++ bytesOf x.f1) := by
  rw [bytesOf_append, bytesOf_nums ha, bytesOf_nums hb]; simp
def putAns (ok : Bool) (s e v : Int) (d : Bool) (z : Int) (l : List O) : R := if ok then putYes s e v d z l else putNo
theorem put_end (l : List O) (s e v : Int) (d : Bool) (z : Int) (he : 0 ≤ e ∧ e ≤ 255) (hv : 0 ≤ v ∧ v ≤ 255) (hz : 0 ≤ z ∧ z ≤ 32767) :
    (if d = true then (some ((⟨#[0]⟩ : ByteArray), (41 : Int), s, Go.bits .or .i64 (Go.bits .or .i64 (Go.bits .or .i64 (wrap64 (e * 16777216)) (wrap64 (v * 65536))) z) 32768, strOfNums (osB l), (0 : Int))) else (some ((⟨#[0]⟩ : ByteArray), 41, s, Go.bits .or .i64 (Go.bits .or .i64 (wrap64 (e * 16777216)) (wrap64 (v * 65536))) z, strOfNums (osB l), 0))) = some (putYes s e v d z l) := by
  rw [ttl_no e v z he hv hz, ttl_yes e v z he hv hz]
  unfold putYes
  cases d <;> rfl
theorem put_l0 (l : List O) (hl : l.length ≤ 5864062014805) (s e v : Int) (d : Bool) (z : Int) (he : 0 ≤ e ∧ e ≤ 255) (hv : 0 ≤ v ∧ v ≤ 255) (hz : 0 ≤ z ∧ z ≤ 32767) : ∀ (m i : Nat), i + m = l.length → (osB (l.take i)).length ≤ 65535 →
    Ev (fun k => opt_Put.l0 k (osB (l.take i)) l (l.length : Int) (i : Int) s e v d z l) (putAns ((l.drop i).all oOk && decide ((osB l).length ≤ 65535)) s e v d z l)
  | 0, i, hm, hb => by
    have hi : l.take i = l := List.take_of_length_le (by omega)
    have hd : l.drop i = [] := List.drop_eq_nil_of_le (by omega)
    rw [hi] at hb ⊢
    refine Ev.step (fun k => by rw [opt_Put.l0]) (Ev.neg (by omega) ?_)
    rw [hd, show (([] : List O).all oOk && decide ((osB l).length ≤ 65535)) = true by simp [hb]]
    exact Ev.some _ fun n => put_end l s e v d z he hv hz
  | m + 1, i, hm, hb => by
    have hi : i < l.length := by omega
    have h1 : (i : Int) < (l.length : Int) := by omega
    have hn := osB_next l i hi
    have hdr : l.drop i = rd_T52 l i :: l.drop (i + 1) := drop_cons l z52 i hi
    have hall : (l.drop i).all oOk = (oOk (rd_T52 l i) && (l.drop (i + 1)).all oOk) := by rw [hdr]; rfl
    have hle := osB_le l (i + 1)
    have ih := put_l0 l hl s e v d z he hv hz m (i + 1) (by omega)
    generalize hx : rd_T52 l i = x at *
    rw [hn, List.length_append, oB_length] at hle ih
    have no : Ev (fun _ : Nat => some putNo) (putAns ((l.drop i).all oOk && decide ((osB l).length ≤ 65535)) s e v d z l) ∨ (oOk x = true ∧ (osB (l.take i)).length + (4 + x.f1.size) ≤ 65535) := by
      by_cases ho : oOk x = true
      · by_cases hw : (osB (l.take i)).length + (4 + x.f1.size) ≤ 65535
        · exact .inr ⟨ho, hw⟩
        · refine .inl (Ev.some _ fun _ => ?_)
          rw [show decide ((osB l).length ≤ 65535) = false by simp; omega, Bool.and_false]; rfl
      · refine .inl (Ev.some _ fun _ => ?_)
        rw [hall, show oOk x = false by simpa using ho]; rfl
    refine Ev.step (fun k => by rw [opt_Put.l0]) (Ev.pos h1 (Ev.pos (by omega) (Ev.pos h1 ?_)))
    rw [hx]
    refine Ev.call (in_eq _ _) ?_
    by_cases hc : 0 ≤ x.f0 ∧ x.f0 ≤ 65535
    · rw [decide_eq_true hc.1, decide_eq_true hc.2]
      refine Ev.pos rfl (Ev.step (fun k => by rw [opt_Put.j2]) ?_)
      by_cases hs : x.f1.size ≤ 65535
      · refine Ev.neg (by simp; omega) (Ev.call (put16_eq _) (Ev.call (put16_eq _) (Ev.pos (by rw [nums_size, nums_size]; simp [p16]) (Ev.pos (by rw [ByteArray.size_append, nums_size, nums_size]; simp only [p16, List.length_cons, List.length_nil]; omega) (Ev.call rfl (Ev.pos (by rw [List.length_append, bytesOf_length, ByteArray.size_append, nums_size, nums_size]; simp only [p16, List.length_cons, List.length_nil]; omega) (Ev.call rfl ?_)))))))
        rw [put_data _ _ x (p16_range _) (p16_range _)]
        have hoB : osB (l.take i) ++ (p16 x.f0 ++ p16 (x.f1.size : Int) ++ bytesOf x.f1) = osB (l.take i) ++ oB x := rfl
        rw [hoB]
        by_cases hw : (osB (l.take i)).length + (4 + x.f1.size) ≤ 65535
        · refine Ev.neg (by rw [List.length_append, oB_length]; omega) ?_
          have ho : oOk x = true := by unfold oOk; simp; omega
          rw [w64 (x := (i : Int) + 1) (by omega) (by omega), hall, ho, Bool.true_and]
          exact ih hw
        · refine Ev.pos (by rw [List.length_append, oB_length]; omega) ?_
          rcases no with no | ⟨_, hw'⟩
          · exact no
          · omega
      · refine Ev.pos (by simp; omega) ?_
        rcases no with no | ⟨ho, hw'⟩
        · exact no
        · omega
    · have hf : (decide (0 ≤ x.f0) && decide (x.f0 ≤ 65535)) = false := by
        simp only [Bool.and_eq_false_iff, decide_eq_false_iff_not]; omega
      rw [hf]
      refine Ev.neg (by simp) (Ev.step (fun k => by rw [opt_Put.j2]) (Ev.pos rfl ?_))
      rcases no with no | ⟨ho, _⟩
      · exact no
      · unfold oOk at ho; simp at ho; omega
theorem put_j0 (b : Bool) (l : List O) (hl : l.length ≤ 5864062014805) (s e v : Int) (d : Bool) (z : Int) (h : b = true ∨ ((0 ≤ e ∧ e ≤ 255) ∧ (0 ≤ v ∧ v ≤ 255) ∧ (0 ≤ z ∧ z ≤ 32767))) :
    Ev (fun k => opt_Put.j0 k b s e v d z l) (putAns (!b && osOk l) s e v d z l) := by
  refine Ev.step (fun k => by rw [opt_Put.j0]) ?_
  cases b with
  | true => exact Ev.pos rfl (Ev.some _ fun _ => rfl)
  | false =>
    rcases h with h | ⟨he, hv, hz⟩
    · cases h
    · have := put_l0 l hl s e v d z he hv hz l.length 0 (by omega) (by simp [osB])
      exact Ev.neg (by simp) this
theorem put_ev (s e v : Int) (d : Bool) (z : Int) (l : List O) (hl : l.length ≤ 5864062014805) : Ev (fun k => opt_Put.f k s e v d z l) (putR s e v d z l) := by
  have e1 : putR s e v d z l = putAns (headOk s e v z && osOk l) s e v d z l := rfl
  have no : Ev (fun k => opt_Put.j0 k true s e v d z l) putNo := put_j0 true l hl s e v d z (.inl rfl)
  rw [e1]
  unfold opt_Put.f headOk
  refine Ev.call (in_eq _ _) ?_
  by_cases h1 : (decide (0 ≤ s) && decide (s ≤ 65535)) = true
  · rw [h1]
    refine Ev.pos rfl (Ev.call (in_eq _ _) ?_)
    by_cases h2 : (decide (0 ≤ e) && decide (e ≤ 255)) = true
    · rw [h2]
      refine Ev.pos rfl (Ev.call (in_eq _ _) ?_)
      by_cases h3 : (decide (0 ≤ v) && decide (v ≤ 255)) = true
      · rw [h3]
        refine Ev.pos rfl (Ev.call (in_eq _ _) ?_)
        by_cases h4 : (decide (0 ≤ z) && decide (z ≤ 32767)) = true
        · rw [h4]
          simp only [Bool.and_eq_true, decide_eq_true_eq] at h2 h3 h4
          exact put_j0 false l hl s e v d z (.inr ⟨h2, h3, h4⟩)
        · rw [show (decide (0 ≤ z) && decide (z ≤ 32767)) = false by simpa using h4]
          exact no
      · rw [show (decide (0 ≤ v) && decide (v ≤ 255)) = false by simpa using h3]
        exact Ev.neg (by simp) no
    · rw [show (decide (0 ≤ e) && decide (e ≤ 255)) = false by simpa using h2]
      exact Ev.neg (by simp) no
  · rw [show (decide (0 ≤ s) && decide (s ≤ 65535)) = false by simpa using h1]
    exact Ev.neg (by simp) no
end Go.Proofs.Ytndcjleadggibaa.OptS
