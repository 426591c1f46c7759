/- What a writer puts behind and keeps, no program in sight: names that are known already, the sizes, names with one end. -/
import Derived.Test.YtepglkgpgoifkaaPutK
import Derived.Test.YtepglkgpgoifkaaNameShift
namespace Go.Proofs.Ytepglkgpgoifkaa.Wr
open Go.RowKit Go.PlainAid Go.Proofs.Ytepglkgpgoifkaa.Base Go.Proofs.Ytepglkgpgoifkaa.Oct Go.Proofs.Ytepglkgpgoifkaa.Nm
set_option linter.unusedVariables false
abbrev root : ByteArray := ⟨#[0]⟩
theorem name_first {s : ByteArray} (h : nameB s = true) : 0 < s.size ∧ s.size ≤ 255 ∧ nameAt s 0 = true := by
  have h1 := (places_pos h).1
  unfold nameB at h
  simp at h
  refine ⟨?_, h.1, h.2⟩
  by_cases h0 : 0 < s.size
  · exact h0
  · have := h.2; rw [nameAt_out (by omega)] at this; cases this
theorem root_of {s : ByteArray} (h : nameB s = true) (h0 : bt s 0 = 0) : s = root := by
  obtain ⟨a, b, c⟩ := name_first h
  rw [nameAt_end a h0] at c
  simp at c
  have hs : s.data.toList.length = 1 := by rw [len_data]; omega
  have hb := bt_data s 0
  rw [h0] at hb
  apply ByteArray.ext
  apply Array.ext'
  match hl : s.data.toList, hs with
  | [u], _ =>
    rw [hl] at hb
    have : u.toNat = 0 := by simpa using hb.symm
    have : u = 0 := UInt8.toNat_inj.1 this
    subst this; rfl
theorem root_bt : bt root 0 = 0 := by decide +kernel
/-- A name that has labels begins with one. -/
theorem label_first {s : ByteArray} (h : nameB s = true) (h0 : s ≠ root) : bt s 0 ≠ 0 ∧ bt s 0 ≤ 63 ∧ 0 < s.size := by
  obtain ⟨a, b, c⟩ := name_first h
  have h1 : bt s 0 ≠ 0 := fun e => h0 (root_of h e)
  refine ⟨h1, ?_, a⟩
  by_cases h2 : 63 < bt s 0
  · rw [nameAt_bad a h2] at c; cases c
  · omega
theorem places_ne (s : ByteArray) (i : Nat) (h : nameAt s i = true) : placesAt s i ≠ [] := by
  by_cases hi : i < s.size
  · rw [placesAt, if_pos hi]; simp
  · rw [nameAt_out (by omega)] at h; cases h
theorem heads_cons {s : ByteArray} (h : nameB s = true) (h0 : s ≠ root) : heads s = 0 :: (placesAt s (0 + 1 + (bt s 0).toNat)).dropLast := by
  obtain ⟨a, b, c⟩ := label_first h h0
  unfold heads places
  rw [placesAt_next c a b, List.dropLast_cons_of_ne_nil]
  refine places_ne _ _ ?_
  rw [← nameAt_next c a b]
  exact (name_first h).2.2
theorem heads_root : heads root = [] := by decide +kernel
theorem ext0 (s : ByteArray) : s.extract 0 s.size = s := by simp
theorem putK_some {m : ByteArray → Option Int} {x : ByteArray} (s : ByteArray) (at0 : Nat) : ∀ (ps : List Nat) (m : ByteArray → Option Int), (m x).isSome = true → (putK m s at0 ps x).isSome = true := by
  intro ps
  induction ps with
  | nil => intro m h; exact h
  | cons p ps ih =>
    intro m h
    refine ih _ ?_
    show (if x = s.extract p s.size then some ((at0 : Int) + p) else m x).isSome = true
    split
    · rfl
    · exact h
/-- What is known stays known. -/
theorem putN_some {m : ByteArray → Option Int} {x : ByteArray} (s : ByteArray) (at0 : Nat) (h : (m x).isSome = true) : (putN m s at0 x).isSome = true := putK_some (m := m) s at0 _ _ h
theorem find_first {m : ByteArray → Option Int} {s : ByteArray} (h : nameB s = true) (h0 : s ≠ root) {t : Int} (hm : m s = some t) : findP m s (heads s) 0 = some (0, 0, t) := by
  rw [heads_cons h h0, findP, ext0, hm]
/-- A name that was put behind is known. -/
theorem putN_self (m : ByteArray → Option Int) {s : ByteArray} (at0 : Nat) (h : nameB s = true) (h0 : s ≠ root) : (putN m s at0 s).isSome = true := by
  by_cases hm : (m s).isSome = true
  · exact putN_some s at0 hm
  · have hc := heads_cons h h0
    have hn : m s = none := by cases e : m s <;> simp_all
    have hw : ∃ k, wroteN m s = k + 1 := by
      unfold wroteN
      rw [hc, findP, ext0, hn]
      cases e : findP m s (placesAt s (0 + 1 + (bt s 0).toNat)).dropLast (0 + 1) with
      | none => exact ⟨_, rfl⟩
      | some r =>
        obtain ⟨j, p, t⟩ := r
        have : ∀ (ps : List Nat) (i j p : Nat) (t : Int), findP m s ps i = some (j, p, t) → i ≤ j := by
          intro ps
          induction ps with
          | nil => intro i j p t h; cases h
          | cons a ps ih =>
            intro i j p t h
            rw [findP] at h
            cases hm : m (s.extract a s.size) with
            | none => rw [hm] at h; have := ih _ _ _ _ h; omega
            | some u =>
              rw [hm] at h
              injection h with h
              injection h with h1 h
              omega
        have := this _ _ _ _ _ e
        exact ⟨j - 1, by simp only; omega⟩
    obtain ⟨k, hk⟩ := hw
    unfold putN
    rw [hk, hc, List.take_succ_cons]
    show (putK (fun y => if y = s.extract 0 s.size then some ((at0 : Int) + (0 : Nat)) else m y) s at0 _ s).isSome = true
    refine putK_some (m := m) s at0 _ _ ?_
    simp
theorem outN_known {m : ByteArray → Option Int} {s : ByteArray} (h : nameB s = true) (h0 : s ≠ root) (hm : (m s).isSome = true) : (outN m s).size = 2 := by
  obtain ⟨t, ht⟩ := Option.isSome_iff_exists.1 hm
  unfold outN
  rw [find_first h h0 ht]
  simp [p16_size]
theorem outN_root (m : ByteArray → Option Int) : outN m root = root := by
  unfold outN; rw [heads_root]; rfl
theorem putN_root (m : ByteArray → Option Int) (at0 : Nat) : putN m root at0 = m := by
  unfold putN; rw [heads_root]; simp [putK]
/-- At most two bytes more than the name. -/
theorem outN_size (m : ByteArray → Option Int) (s : ByteArray) (h : nameB s = true) : (outN m s).size ≤ s.size + 2 := by
  unfold outN
  cases e : findP m s (heads s) 0 with
  | none => simp
  | some r =>
    obtain ⟨j, p, t⟩ := r
    show (s.extract 0 p ++ p16 _).size ≤ _
    rw [ByteArray.size_append, p16_size, ByteArray.size_extract]; omega
theorem wrote_new (m : ByteArray → Option Int) (s : ByteArray) (h : findP m s (heads s) 0 = none) (at0 : Nat) : putN m s at0 = putK m s at0 (heads s) := by
  unfold putN wroteN
  rw [h]
  simp
theorem ext_shift (h s : ByteArray) (k p : Nat) (hk : h.size = k) : (h ++ s).extract (k + p) (h ++ s).size = s.extract p s.size := by
  subst hk
  have l1 := len_data h
  have l2 := len_data s
  apply ByteArray.ext
  apply Array.ext'
  rw [ByteArray.size_append]
  simp only [ByteArray.data_extract, ByteArray.data_append, Array.toList_extract, Array.toList_append, List.extract_eq_take_drop]
  rw [List.drop_append, l1, List.drop_eq_nil_of_le (by omega), List.nil_append, show h.size + p - h.size = p by omega, show h.size + s.size - (h.size + p) = s.size - p by omega]
/-! ### Two names with one end -/
section
variable (s hx hy : ByteArray) (hn : nameB s = true) (h0 : s ≠ root) (hs : s.size ≤ 200) (zx : hx.size = 3) (zy : hy.size = 3) (bx : bt hx 0 = 2) (byy : bt hy 0 = 2) (hne : hx ≠ hy)
include hn h0 hs zx zy bx byy hne
theorem shares : nameB (hx ++ s) = true ∧ nameB (hy ++ s) = true ∧ outN (fun _ => none) (hx ++ s) = hx ++ s ∧
    outN (putN (fun _ => none) (hx ++ s) 0) (hy ++ s) = hy ++ p16 (Go.bits .or .i64 49152 3) ∧
    ∀ k, outN (putN (putN (fun _ => none) (hx ++ s) 0) (hy ++ s) k) s = p16 (Go.bits .or .i64 49152 3) := by
  have lx := label_ahead hx s 2 (by decide) (by decide) zx bx hn (by omega)
  have ly := label_ahead hy s 2 (by decide) (by decide) zy byy hn (by omega)
  have hc := heads_cons h0 (h := hn)
  have pne : places s ≠ [] := by have := (places_pos hn).2; intro e; rw [e] at this; cases this
  have hdl : ∀ l : List Nat, l ≠ [] → (0 :: l.map (2 + 1 + ·)).dropLast = 0 :: l.dropLast.map (3 + ·) := by
    intro l hl
    rw [List.dropLast_cons_of_ne_nil (by simpa using hl), List.map_dropLast]
  have ex : heads (hx ++ s) = 0 :: (heads s).map (3 + ·) := by unfold heads; rw [lx.2]; exact hdl _ pne
  have ey : heads (hy ++ s) = 0 :: (heads s).map (3 + ·) := by unfold heads; rw [ly.2]; exact hdl _ pne
  have fx := fun p => ext_shift hx s 3 p zx
  have fy := fun p => ext_shift hy s 3 p zy
  have sx : (hx ++ s).size = 3 + s.size := by rw [ByteArray.size_append, zx]
  have sy : (hy ++ s).size = 3 + s.size := by rw [ByteArray.size_append, zy]
  have nn : ∀ (x : ByteArray) (ps : List Nat) (i : Nat), findP (fun _ => none) x ps i = none := by
    intro x ps
    induction ps with
    | nil => intro i; rfl
    | cons p ps ih => intro i; exact ih (i + 1)
  have e1 : putN (fun _ => none) (hx ++ s) 0 = putK (fun _ => none) (hx ++ s) 0 (heads (hx ++ s)) := wrote_new _ _ (nn _ _ _) 0
  have e3 : (hx ++ s).extract 3 (hx ++ s).size = s := by have := fx 0; simpa using this
  have ms : putN (fun _ => none) (hx ++ s) 0 s = some 3 := by
    rw [e1, putK_hit (hx ++ s) s 0 3 e3 _ _ (by rw [ex, hc]; simp) (fun p hp e => rest_inj (hx ++ s) p 3 ?_ (by omega) (by rw [e, e3]))]
    · rfl
    · have := placesAt_mem (hx ++ s) _ 0 (Nat.le_refl _) p (List.dropLast_subset _ hp)
      omega
  have xy : hx ++ s ≠ hy ++ s := fun e => hne (by
    have e2 := congrArg (fun z : ByteArray => z.extract 0 3) e
    have q : ∀ h : ByteArray, h.size = 3 → (h ++ s).extract 0 3 = h := by
      intro h zh
      apply ByteArray.ext
      apply Array.ext'
      have : h.data.toList.length = 3 := by rw [len_data]; exact zh
      simp only [ByteArray.data_extract, ByteArray.data_append, Array.toList_extract, Array.toList_append, List.extract_eq_take_drop]
      simp [← this]
    simpa [q hx zx, q hy zy] using e2)
  have my : putN (fun _ => none) (hx ++ s) 0 (hy ++ s) = none := by
    rw [e1]
    refine putK_miss (hx ++ s) (hy ++ s) 0 _ _ fun p hp e => ?_
    rw [ex] at hp
    rcases List.mem_cons.1 hp with rfl | hp
    · rw [ext0] at e; exact xy e
    · obtain ⟨q, _, rfl⟩ := List.mem_map.1 hp
      have := congrArg ByteArray.size e
      rw [ByteArray.size_extract, sx, sy] at this
      have := (name_first hn).1
      omega
  have fy1 : findP (putN (fun _ => none) (hx ++ s) 0) (hy ++ s) (heads (hy ++ s)) 0 = some (1, 3, 3) := by
    rw [ey, findP, ext0, my, hc]
    show findP _ _ ((3 + 0) :: _) (0 + 1) = _
    rw [findP, fy 0, ext0, ms]
  refine ⟨lx.1, ly.1, ?_, ?_, ?_⟩
  · unfold outN; rw [nn]
  · unfold outN
    rw [fy1]
    show (hy ++ s).extract 0 3 ++ _ = _
    congr 1
    apply ByteArray.ext
    apply Array.ext'
    have : hy.data.toList.length = 3 := by rw [len_data]; exact zy
    simp only [ByteArray.data_extract, ByteArray.data_append, Array.toList_extract, Array.toList_append, List.extract_eq_take_drop]
    simp [← this]
  · intro k
    have m2 : putN (putN (fun _ => none) (hx ++ s) 0) (hy ++ s) k s = some 3 := by
      generalize putN (fun _ => none) (hx ++ s) 0 = m1 at *
      have w1 : wroteN m1 (hy ++ s) = 1 := by unfold wroteN; rw [fy1]
      unfold putN
      rw [w1, ey]
      show (if s = (hy ++ s).extract 0 (hy ++ s).size then _ else m1 s) = _
      rw [if_neg, ms]
      intro e
      have := congrArg ByteArray.size e
      rw [ext0, sy] at this
      omega
    unfold outN
    rw [find_first hn h0 m2]
    show s.extract 0 0 ++ _ = _
    simp
end
end Go.Proofs.Ytepglkgpgoifkaa.Wr
