/- Contracts of rdata.May and of the document's DataMay: each answers the same, for every type and every string. -/
import Derived.Test.YtepglkgpgoifkaaData2
namespace Go.Proofs.Ytepglkgpgoifkaa.Rd
open Go.RowKit Go.PlainAid Go.Proofs.Ytepglkgpgoifkaa.Base Go.Proofs.Ytepglkgpgoifkaa.Oct Go.Proofs.Ytepglkgpgoifkaa.Sl Go.Proofs.Ytepglkgpgoifkaa.Nm
set_option linter.unusedVariables false

theorem mayD_body {t : Int} {s : ByteArray} (h1 : ¬ t < 1) (h2 : ¬ 65535 < t) (h3 : ¬ 65535 < s.size) : mayD t s =
    if t = 1 then decide (s.size = 4) else if t = 28 then decide (s.size = 16) else
    if t = 2 then nameB s else if t = 5 then nameB s else if t = 12 then nameB s else
    if t = 15 then decide (2 ≤ s.size) && nameB (s.extract 2 s.size) else
    if t = 6 then soaB s else if t = 16 then textsB s else true := by
  unfold mayD; rw [if_neg h1, if_neg h2, if_neg h3]
theorem nameB_small {s : ByteArray} (h : s.size = 0) : nameB s = false := by
  unfold nameB; rw [nameAt_out (by omega)]; simp

set_option maxRecDepth 100000 in
set_option maxHeartbeats 1000000 in
theorem dmayOut (t : Int) (s : ByteArray) (w : World) (hs : s.size ≤ 9223372036854775000) (h : t < 1 ∨ 65535 < t ∨ 65535 < s.size) : Calls Try.prog 37 #[.int .i64 t, .string s] w fun e w' => e = .returned (.bool (mayD t s)) ∧ Below w.heap.size w w' := by
  have e1 : mayD t s = false := by
    unfold mayD
    by_cases h1 : t < 1
    · rw [if_pos h1]
    · rw [if_neg h1]
      by_cases h2 : 65535 < t
      · rw [if_pos h2]
      · rw [if_neg h2, if_pos (by omega)]
  by_cases h1 : t < 1
  · have q1 : decide (t < 1) = true := decide_eq_true h1
    clear h
    go_enter Try.func37, Try.ntmps37
    go_wp2
    go_ret
    exact ⟨by first | rfl | (rw [e1]; rfl), Below.refl _ _⟩
  · have q1 : decide (t < 1) = false := decide_eq_false h1
    by_cases h2 : 65535 < t
    · have q2 : decide (65535 < t) = true := decide_eq_true h2
      clear h
      go_enter Try.func37, Try.ntmps37
      go_wp2
      go_ret
      exact ⟨by first | rfl | (rw [e1]; rfl), Below.refl _ _⟩
    · have q2 : decide (65535 < t) = false := decide_eq_false h2
      have q3 : decide ((65535 : Int) < s.size) = true := by simp; omega
      clear h
      go_enter Try.func37, Try.ntmps37
      go_wp2
      go_ret
      exact ⟨by first | rfl | (rw [e1]; rfl), Below.refl _ _⟩

set_option maxRecDepth 100000 in
set_option maxHeartbeats 1000000 in
theorem dmay1 (s : ByteArray) (w : World) (hs : s.size ≤ 9223372036854775000) (h3 : ¬ 65535 < s.size) : Calls Try.prog 37 #[.int .i64 1, .string s] w fun e w' => e = .returned (.bool (mayD 1 s)) ∧ Below w.heap.size w w' := by
  have q3 : decide ((65535 : Int) < s.size) = false := by simp; omega
  have hm : mayD 1 s = _ := mayD_body (t := 1) (by decide) (by decide) h3
  have e1 : mayD 1 s = ((s.size : Int) == 4) := by rw [hm, Bool.eq_iff_iff]; simp; omega
  have E := Lib.hid e1
  clear hm e1
  go_enter Try.func37, Try.ntmps37
  go_wp2
  go_ret
  exact ⟨by rw [E.out]; rfl, Below.refl _ _⟩

set_option maxRecDepth 100000 in
set_option maxHeartbeats 1000000 in
theorem dmay28 (s : ByteArray) (w : World) (hs : s.size ≤ 9223372036854775000) (h3 : ¬ 65535 < s.size) : Calls Try.prog 37 #[.int .i64 28, .string s] w fun e w' => e = .returned (.bool (mayD 28 s)) ∧ Below w.heap.size w w' := by
  have q3 : decide ((65535 : Int) < s.size) = false := by simp; omega
  have hm : mayD 28 s = _ := mayD_body (t := 28) (by decide) (by decide) h3
  have e1 : mayD 28 s = ((s.size : Int) == 16) := by rw [hm, Bool.eq_iff_iff]; simp; omega
  have E := Lib.hid e1
  clear hm e1
  go_enter Try.func37, Try.ntmps37
  go_wp2
  go_ret
  exact ⟨by rw [E.out]; rfl, Below.refl _ _⟩

set_option maxRecDepth 100000 in
set_option maxHeartbeats 1000000 in
theorem dmay2 (s : ByteArray) (w : World) (hs : s.size ≤ 9223372036854775000) (h3 : ¬ 65535 < s.size) : Calls Try.prog 37 #[.int .i64 2, .string s] w fun e w' => e = .returned (.bool (mayD 2 s)) ∧ Below w.heap.size w w' := by
  have q3 : decide ((65535 : Int) < s.size) = false := by simp; omega
  have hm : mayD 2 s = _ := mayD_body (t := 2) (by decide) (by decide) h3
  have e1 : mayD 2 s = nameB s := by rw [hm]; simp
  have E := Lib.hid e1
  clear hm e1
  go_enter Try.func37, Try.ntmps37
  go_wp2_with fail
  refine (may s _).mono ?_
  rintro e w1 ⟨rfl, hb1⟩
  go_wp2
  go_ret
  exact ⟨by rw [E.out]; rfl, hb1⟩

set_option maxRecDepth 100000 in
set_option maxHeartbeats 1000000 in
theorem dmay5 (s : ByteArray) (w : World) (hs : s.size ≤ 9223372036854775000) (h3 : ¬ 65535 < s.size) : Calls Try.prog 37 #[.int .i64 5, .string s] w fun e w' => e = .returned (.bool (mayD 5 s)) ∧ Below w.heap.size w w' := by
  have q3 : decide ((65535 : Int) < s.size) = false := by simp; omega
  have hm : mayD 5 s = _ := mayD_body (t := 5) (by decide) (by decide) h3
  have e1 : mayD 5 s = nameB s := by rw [hm]; simp
  have E := Lib.hid e1
  clear hm e1
  go_enter Try.func37, Try.ntmps37
  go_wp2_with fail
  refine (may s _).mono ?_
  rintro e w1 ⟨rfl, hb1⟩
  go_wp2
  go_ret
  exact ⟨by rw [E.out]; rfl, hb1⟩

set_option maxRecDepth 100000 in
set_option maxHeartbeats 1000000 in
theorem dmay12 (s : ByteArray) (w : World) (hs : s.size ≤ 9223372036854775000) (h3 : ¬ 65535 < s.size) : Calls Try.prog 37 #[.int .i64 12, .string s] w fun e w' => e = .returned (.bool (mayD 12 s)) ∧ Below w.heap.size w w' := by
  have q3 : decide ((65535 : Int) < s.size) = false := by simp; omega
  have hm : mayD 12 s = _ := mayD_body (t := 12) (by decide) (by decide) h3
  have e1 : mayD 12 s = nameB s := by rw [hm]; simp
  have E := Lib.hid e1
  clear hm e1
  go_enter Try.func37, Try.ntmps37
  go_wp2_with fail
  refine (may s _).mono ?_
  rintro e w1 ⟨rfl, hb1⟩
  go_wp2
  go_ret
  exact ⟨by rw [E.out]; rfl, hb1⟩

set_option maxRecDepth 100000 in
set_option maxHeartbeats 1000000 in
theorem dmay15 (s : ByteArray) (w : World) (hs : s.size ≤ 9223372036854775000) (h3 : ¬ 65535 < s.size) : Calls Try.prog 37 #[.int .i64 15, .string s] w fun e w' => e = .returned (.bool (mayD 15 s)) ∧ Below w.heap.size w w' := by
  have q3 : decide ((65535 : Int) < s.size) = false := by simp; omega
  have hm : mayD 15 s = _ := mayD_body (t := 15) (by decide) (by decide) h3
  by_cases h2 : 2 ≤ s.size
  · have q4 : decide ((2 : Int) ≤ s.size) = true := by simp; omega
    have e1 : mayD 15 s = nameB (s.extract 2 s.size) := by rw [hm]; simp [h2]
    have E := Lib.hid e1
    have hsl := slice_a s 2 h2 w
    clear hm e1
    go_enter Try.func37, Try.ntmps37
    go_wp2_with fail
    refine (may _ _).mono ?_
    rintro e w1 ⟨rfl, hb1⟩
    go_wp2
    go_ret
    exact ⟨by rw [E.out]; rfl, hb1⟩
  · have q4 : decide ((2 : Int) ≤ s.size) = false := by simp; omega
    have e1 : mayD 15 s = false := by rw [hm]; simp [h2]
    have E := Lib.hid e1
    clear hm e1
    go_enter Try.func37, Try.ntmps37
    go_wp2
    go_ret
    exact ⟨by rw [E.out]; rfl, Below.refl _ _⟩

set_option maxRecDepth 100000 in
set_option maxHeartbeats 1000000 in
theorem dmay6 (s : ByteArray) (w : World) (hs : s.size ≤ 9223372036854775000) (h3 : ¬ 65535 < s.size) : Calls Try.prog 37 #[.int .i64 6, .string s] w fun e w' => e = .returned (.bool (mayD 6 s)) ∧ Below w.heap.size w w' := by
  have q3 : decide ((65535 : Int) < s.size) = false := by simp; omega
  have hm : mayD 6 s = _ := mayD_body (t := 6) (by decide) (by decide) h3
  have e1 : mayD 6 s = soaB s := by rw [hm]; simp
  have E := Lib.hid e1
  clear hm e1
  go_enter Try.func37, Try.ntmps37
  go_wp2_with fail
  refine (soa s _ hs).mono ?_
  rintro e w1 ⟨rfl, hb1⟩
  go_wp2
  go_ret
  exact ⟨by rw [E.out]; rfl, hb1⟩

set_option maxRecDepth 100000 in
set_option maxHeartbeats 1000000 in
theorem dmay16 (s : ByteArray) (w : World) (hs : s.size ≤ 9223372036854775000) (h3 : ¬ 65535 < s.size) : Calls Try.prog 37 #[.int .i64 16, .string s] w fun e w' => e = .returned (.bool (mayD 16 s)) ∧ Below w.heap.size w w' := by
  have q3 : decide ((65535 : Int) < s.size) = false := by simp; omega
  have hm : mayD 16 s = _ := mayD_body (t := 16) (by decide) (by decide) h3
  have e1 : mayD 16 s = textsB s := by rw [hm]; simp
  have E := Lib.hid e1
  clear hm e1
  go_enter Try.func37, Try.ntmps37
  go_wp2_with fail
  refine (texts s _ hs).mono ?_
  rintro e w1 ⟨rfl, rfl⟩
  go_wp2
  go_ret
  exact ⟨by rw [E.out]; rfl, Below.refl _ _⟩

set_option maxRecDepth 100000 in
set_option maxHeartbeats 1000000 in
theorem dmayRest (t : Int) (s : ByteArray) (w : World) (hs : s.size ≤ 9223372036854775000) (h1 : ¬ t < 1) (h2 : ¬ 65535 < t) (h3 : ¬ 65535 < s.size) (k1 : ¬ t = 1) (k28 : ¬ t = 28) (k2 : ¬ t = 2) (k5 : ¬ t = 5) (k12 : ¬ t = 12) (k15 : ¬ t = 15) (k6 : ¬ t = 6) (k16 : ¬ t = 16) : Calls Try.prog 37 #[.int .i64 t, .string s] w fun e w' => e = .returned (.bool (mayD t s)) ∧ Below w.heap.size w w' := by
  have e1 : mayD t s = true := by rw [mayD_body h1 h2 h3]; simp [k1, k28, k2, k5, k12, k15, k6, k16]
  have p1 : decide (t < 1) = false := decide_eq_false h1
  have p2 : decide (65535 < t) = false := decide_eq_false h2
  have p3 : decide ((65535 : Int) < s.size) = false := by simp; omega
  have q1 : (t == 1) = false := by simp [k1]
  have q28 : (t == 28) = false := by simp [k28]
  have q2 : (t == 2) = false := by simp [k2]
  have q5 : (t == 5) = false := by simp [k5]
  have q12 : (t == 12) = false := by simp [k12]
  have q15 : (t == 15) = false := by simp [k15]
  have q6 : (t == 6) = false := by simp [k6]
  have q16 : (t == 16) = false := by simp [k16]
  clear h1 h2 h3 k1 k28 k2 k5 k12 k15 k6 k16
  go_enter Try.func37, Try.ntmps37
  go_wp2
  go_ret
  exact ⟨by first | rfl | (rw [e1]; rfl), Below.refl _ _⟩

theorem dmay (t : Int) (s : ByteArray) (w : World) (hs : s.size ≤ 9223372036854775000) : Calls Try.prog 37 #[.int .i64 t, .string s] w fun e w' => e = .returned (.bool (mayD t s)) ∧ Below w.heap.size w w' := by
  by_cases h1 : t < 1
  · exact dmayOut t s w hs (.inl h1)
  by_cases h2 : 65535 < t
  · exact dmayOut t s w hs (.inr (.inl h2))
  by_cases h3 : 65535 < s.size
  · exact dmayOut t s w hs (.inr (.inr h3))
  by_cases k1 : t = 1
  · subst k1; exact dmay1 s w hs h3
  by_cases k28 : t = 28
  · subst k28; exact dmay28 s w hs h3
  by_cases k2 : t = 2
  · subst k2; exact dmay2 s w hs h3
  by_cases k5 : t = 5
  · subst k5; exact dmay5 s w hs h3
  by_cases k12 : t = 12
  · subst k12; exact dmay12 s w hs h3
  by_cases k15 : t = 15
  · subst k15; exact dmay15 s w hs h3
  by_cases k6 : t = 6
  · subst k6; exact dmay6 s w hs h3
  by_cases k16 : t = 16
  · subst k16; exact dmay16 s w hs h3
  exact dmayRest t s w hs h1 h2 h3 k1 k28 k2 k5 k12 k15 k6 k16

set_option maxRecDepth 100000 in
set_option maxHeartbeats 1000000 in
theorem rdmayOut (t : Int) (s : ByteArray) (w : World) (hs : s.size ≤ 9223372036854775000) (h : t < 1 ∨ 65535 < t ∨ 65535 < s.size) : Calls Try.prog 68 #[.int .i64 t, .string s] w fun e w' => e = .returned (.bool (mayD t s)) ∧ Below w.heap.size w w' := by
  have e1 : mayD t s = false := by
    unfold mayD
    by_cases h1 : t < 1
    · rw [if_pos h1]
    · rw [if_neg h1]
      by_cases h2 : 65535 < t
      · rw [if_pos h2]
      · rw [if_neg h2, if_pos (by omega)]
  by_cases h1 : t < 1
  · have q1 : decide (t < 1) = true := decide_eq_true h1
    clear h
    go_enter Try.func68, Try.ntmps68
    go_wp2
    go_ret
    exact ⟨by first | rfl | (rw [e1]; rfl), Below.refl _ _⟩
  · have q1 : decide (t < 1) = false := decide_eq_false h1
    by_cases h2 : 65535 < t
    · have q2 : decide (65535 < t) = true := decide_eq_true h2
      clear h
      go_enter Try.func68, Try.ntmps68
      go_wp2
      go_ret
      exact ⟨by first | rfl | (rw [e1]; rfl), Below.refl _ _⟩
    · have q2 : decide (65535 < t) = false := decide_eq_false h2
      have q3 : decide ((65535 : Int) < s.size) = true := by simp; omega
      clear h
      go_enter Try.func68, Try.ntmps68
      go_wp2
      go_ret
      exact ⟨by first | rfl | (rw [e1]; rfl), Below.refl _ _⟩

set_option maxRecDepth 100000 in
set_option maxHeartbeats 1000000 in
theorem rdmay1 (s : ByteArray) (w : World) (hs : s.size ≤ 9223372036854775000) (h3 : ¬ 65535 < s.size) : Calls Try.prog 68 #[.int .i64 1, .string s] w fun e w' => e = .returned (.bool (mayD 1 s)) ∧ Below w.heap.size w w' := by
  have q3 : decide ((65535 : Int) < s.size) = false := by simp; omega
  have hm : mayD 1 s = _ := mayD_body (t := 1) (by decide) (by decide) h3
  have e1 : mayD 1 s = ((s.size : Int) == 4) := by rw [hm, Bool.eq_iff_iff]; simp; omega
  have E := Lib.hid e1
  clear hm e1
  go_enter Try.func68, Try.ntmps68
  go_wp2
  go_ret
  exact ⟨by rw [E.out]; rfl, Below.refl _ _⟩

set_option maxRecDepth 100000 in
set_option maxHeartbeats 1000000 in
theorem rdmay28 (s : ByteArray) (w : World) (hs : s.size ≤ 9223372036854775000) (h3 : ¬ 65535 < s.size) : Calls Try.prog 68 #[.int .i64 28, .string s] w fun e w' => e = .returned (.bool (mayD 28 s)) ∧ Below w.heap.size w w' := by
  have q3 : decide ((65535 : Int) < s.size) = false := by simp; omega
  have hm : mayD 28 s = _ := mayD_body (t := 28) (by decide) (by decide) h3
  have e1 : mayD 28 s = ((s.size : Int) == 16) := by rw [hm, Bool.eq_iff_iff]; simp; omega
  have E := Lib.hid e1
  clear hm e1
  go_enter Try.func68, Try.ntmps68
  go_wp2
  go_ret
  exact ⟨by rw [E.out]; rfl, Below.refl _ _⟩

set_option maxRecDepth 100000 in
set_option maxHeartbeats 1000000 in
theorem rdmay2 (s : ByteArray) (w : World) (hs : s.size ≤ 9223372036854775000) (h3 : ¬ 65535 < s.size) : Calls Try.prog 68 #[.int .i64 2, .string s] w fun e w' => e = .returned (.bool (mayD 2 s)) ∧ Below w.heap.size w w' := by
  have q3 : decide ((65535 : Int) < s.size) = false := by simp; omega
  have hm : mayD 2 s = _ := mayD_body (t := 2) (by decide) (by decide) h3
  have e1 : mayD 2 s = nameB s := by rw [hm]; simp
  have E := Lib.hid e1
  clear hm e1
  go_enter Try.func68, Try.ntmps68
  go_wp2_with fail
  refine (rmay s _).mono ?_
  rintro e w1 ⟨rfl, hb1⟩
  go_wp2
  go_ret
  exact ⟨by rw [E.out]; rfl, hb1⟩

set_option maxRecDepth 100000 in
set_option maxHeartbeats 1000000 in
theorem rdmay5 (s : ByteArray) (w : World) (hs : s.size ≤ 9223372036854775000) (h3 : ¬ 65535 < s.size) : Calls Try.prog 68 #[.int .i64 5, .string s] w fun e w' => e = .returned (.bool (mayD 5 s)) ∧ Below w.heap.size w w' := by
  have q3 : decide ((65535 : Int) < s.size) = false := by simp; omega
  have hm : mayD 5 s = _ := mayD_body (t := 5) (by decide) (by decide) h3
  have e1 : mayD 5 s = nameB s := by rw [hm]; simp
  have E := Lib.hid e1
  clear hm e1
  go_enter Try.func68, Try.ntmps68
  go_wp2_with fail
  refine (rmay s _).mono ?_
  rintro e w1 ⟨rfl, hb1⟩
  go_wp2
  go_ret
  exact ⟨by rw [E.out]; rfl, hb1⟩

set_option maxRecDepth 100000 in
set_option maxHeartbeats 1000000 in
theorem rdmay12 (s : ByteArray) (w : World) (hs : s.size ≤ 9223372036854775000) (h3 : ¬ 65535 < s.size) : Calls Try.prog 68 #[.int .i64 12, .string s] w fun e w' => e = .returned (.bool (mayD 12 s)) ∧ Below w.heap.size w w' := by
  have q3 : decide ((65535 : Int) < s.size) = false := by simp; omega
  have hm : mayD 12 s = _ := mayD_body (t := 12) (by decide) (by decide) h3
  have e1 : mayD 12 s = nameB s := by rw [hm]; simp
  have E := Lib.hid e1
  clear hm e1
  go_enter Try.func68, Try.ntmps68
  go_wp2_with fail
  refine (rmay s _).mono ?_
  rintro e w1 ⟨rfl, hb1⟩
  go_wp2
  go_ret
  exact ⟨by rw [E.out]; rfl, hb1⟩

set_option maxRecDepth 100000 in
set_option maxHeartbeats 1000000 in
theorem rdmay15 (s : ByteArray) (w : World) (hs : s.size ≤ 9223372036854775000) (h3 : ¬ 65535 < s.size) : Calls Try.prog 68 #[.int .i64 15, .string s] w fun e w' => e = .returned (.bool (mayD 15 s)) ∧ Below w.heap.size w w' := by
  have q3 : decide ((65535 : Int) < s.size) = false := by simp; omega
  have hm : mayD 15 s = _ := mayD_body (t := 15) (by decide) (by decide) h3
  by_cases h2 : 2 < s.size
  · have q4 : decide (2 < s.size) = true := decide_eq_true h2
    have e1 : mayD 15 s = nameB (s.extract 2 s.size) := by rw [hm]; simp; omega
    have E := Lib.hid e1
    have hsl := slice_a s 2 (by omega) w
    clear hm e1
    go_enter Try.func68, Try.ntmps68
    go_wp2_with fail
    refine (rmay _ _).mono ?_
    rintro e w1 ⟨rfl, hb1⟩
    go_wp2
    go_ret
    exact ⟨by rw [E.out]; rfl, hb1⟩
  · have q4 : decide (2 < s.size) = false := decide_eq_false h2
    have e0 : nameB (s.extract 2 s.size) = false := nameB_small (by rw [ByteArray.size_extract]; omega)
    have e1 : mayD 15 s = false := by rw [hm, e0]; simp
    have E := Lib.hid e1
    clear hm e1 e0
    go_enter Try.func68, Try.ntmps68
    go_wp2
    go_ret
    exact ⟨by rw [E.out]; rfl, Below.refl _ _⟩

set_option maxRecDepth 100000 in
set_option maxHeartbeats 1000000 in
theorem rdmay6 (s : ByteArray) (w : World) (hs : s.size ≤ 9223372036854775000) (h3 : ¬ 65535 < s.size) : Calls Try.prog 68 #[.int .i64 6, .string s] w fun e w' => e = .returned (.bool (mayD 6 s)) ∧ Below w.heap.size w w' := by
  have q3 : decide ((65535 : Int) < s.size) = false := by simp; omega
  have hm : mayD 6 s = _ := mayD_body (t := 6) (by decide) (by decide) h3
  have e0 : mayD 6 s = soaB s := by rw [hm]; simp
  have hB := @endN_bd s 0
  have hN := @endN_neg s 0
  clear hm
  by_cases h : endN s 0 < 0
  · have e1 : mayD 6 s = false := by rw [e0]; unfold soaB; simp; omega
    have q : endN s 0 = -1 := hN h
    have E := Lib.hid e1
    clear e1 e0 h hB hN
    go_enter Try.func68, Try.ntmps68
    go_wp2_with fail
    refine (whole s 0 _ hs (by omega)).mono ?_
    rintro e w1 ⟨rfl, hb1⟩
    rw [q]
    go_wp2
    go_ret
    exact ⟨by rw [E.out]; rfl, hb1⟩
  · obtain ⟨n, hn⟩ : ∃ n : Nat, endN s 0 = n := ⟨(endN s 0).toNat, by omega⟩
    have hnb := hB (by omega)
    rw [hn] at hnb
    have hle : n ≤ s.size := by omega
    have hB2 := @endN_bd s n
    have hN2 := @endN_neg s n
    have e1 : mayD 6 s = (decide (0 ≤ endN s n) && decide ((s.size : Int) = endN s n + 20)) := by rw [e0]; unfold soaB; rw [hn]; simp
    by_cases h2 : endN s n < 0
    · have e2 : mayD 6 s = false := by rw [e1]; simp; omega
      have q : endN s n = -1 := hN2 h2
      have E := Lib.hid e2
      clear e1 e0 e2 h hB hN hB2 hN2 h2 hnb
      go_enter Try.func68, Try.ntmps68
      go_wp2_with fail
      refine (whole s 0 _ hs (by omega)).mono ?_
      rintro e w1 ⟨rfl, hb1⟩
      rw [hn]
      go_wp2_with fail
      refine (whole s n _ hs hle).mono ?_
      rintro e w2 ⟨rfl, hb2⟩
      rw [q]
      go_wp2
      go_ret
      exact ⟨by rw [E.out]; rfl, below_next hb1 hb2⟩
    · obtain ⟨k, hk⟩ : ∃ k : Nat, endN s n = k := ⟨(endN s n).toNat, by omega⟩
      have hkb := hB2 (by omega)
      rw [hk] at hkb
      have hkl : k ≤ s.size := by omega
      have wk : wrap64 ((k : Int) + 20) = (k : Int) + 20 := w64 (by omega) (by omega)
      have e2 : mayD 6 s = ((s.size : Int) == (k : Int) + 20) := by rw [e1, hk, Bool.eq_iff_iff]; simp
      have E := Lib.hid e2
      clear e1 e0 e2 h hB hN hB2 hN2 h2 hnb hkb
      go_enter Try.func68, Try.ntmps68
      go_wp2_with fail
      refine (whole s 0 _ hs (by omega)).mono ?_
      rintro e w1 ⟨rfl, hb1⟩
      rw [hn]
      go_wp2_with fail
      refine (whole s n _ hs hle).mono ?_
      rintro e w2 ⟨rfl, hb2⟩
      rw [hk]
      go_wp2
      go_ret
      exact ⟨by rw [E.out]; rfl, below_next hb1 hb2⟩

set_option maxRecDepth 100000 in
set_option maxHeartbeats 1000000 in
theorem rdmay16 (s : ByteArray) (w : World) (hs : s.size ≤ 9223372036854775000) (h3 : ¬ 65535 < s.size) : Calls Try.prog 68 #[.int .i64 16, .string s] w fun e w' => e = .returned (.bool (mayD 16 s)) ∧ Below w.heap.size w w' := by
  have q3 : decide ((65535 : Int) < s.size) = false := by simp; omega
  have hm : mayD 16 s = _ := mayD_body (t := 16) (by decide) (by decide) h3
  have e1 : mayD 16 s = textsB s := by rw [hm]; simp
  have E := Lib.hid e1
  clear hm e1
  go_enter Try.func68, Try.ntmps68
  go_wp2_with fail
  refine (rtexts s _ hs).mono ?_
  rintro e w1 ⟨rfl, rfl⟩
  go_wp2
  go_ret
  exact ⟨by rw [E.out]; rfl, Below.refl _ _⟩

set_option maxRecDepth 100000 in
set_option maxHeartbeats 1000000 in
theorem rdmayRest (t : Int) (s : ByteArray) (w : World) (hs : s.size ≤ 9223372036854775000) (h1 : ¬ t < 1) (h2 : ¬ 65535 < t) (h3 : ¬ 65535 < s.size) (k1 : ¬ t = 1) (k28 : ¬ t = 28) (k2 : ¬ t = 2) (k5 : ¬ t = 5) (k12 : ¬ t = 12) (k15 : ¬ t = 15) (k6 : ¬ t = 6) (k16 : ¬ t = 16) : Calls Try.prog 68 #[.int .i64 t, .string s] w fun e w' => e = .returned (.bool (mayD t s)) ∧ Below w.heap.size w w' := by
  have e1 : mayD t s = true := by rw [mayD_body h1 h2 h3]; simp [k1, k28, k2, k5, k12, k15, k6, k16]
  have p1 : decide (t < 1) = false := decide_eq_false h1
  have p2 : decide (65535 < t) = false := decide_eq_false h2
  have p3 : decide ((65535 : Int) < s.size) = false := by simp; omega
  have q1 : (t == 1) = false := by simp [k1]
  have q28 : (t == 28) = false := by simp [k28]
  have q2 : (t == 2) = false := by simp [k2]
  have q5 : (t == 5) = false := by simp [k5]
  have q12 : (t == 12) = false := by simp [k12]
  have q15 : (t == 15) = false := by simp [k15]
  have q6 : (t == 6) = false := by simp [k6]
  have q16 : (t == 16) = false := by simp [k16]
  clear h1 h2 h3 k1 k28 k2 k5 k12 k15 k6 k16
  go_enter Try.func68, Try.ntmps68
  go_wp2
  go_ret
  exact ⟨by first | rfl | (rw [e1]; rfl), Below.refl _ _⟩

theorem rdmay (t : Int) (s : ByteArray) (w : World) (hs : s.size ≤ 9223372036854775000) : Calls Try.prog 68 #[.int .i64 t, .string s] w fun e w' => e = .returned (.bool (mayD t s)) ∧ Below w.heap.size w w' := by
  by_cases h1 : t < 1
  · exact rdmayOut t s w hs (.inl h1)
  by_cases h2 : 65535 < t
  · exact rdmayOut t s w hs (.inr (.inl h2))
  by_cases h3 : 65535 < s.size
  · exact rdmayOut t s w hs (.inr (.inr h3))
  by_cases k1 : t = 1
  · subst k1; exact rdmay1 s w hs h3
  by_cases k28 : t = 28
  · subst k28; exact rdmay28 s w hs h3
  by_cases k2 : t = 2
  · subst k2; exact rdmay2 s w hs h3
  by_cases k5 : t = 5
  · subst k5; exact rdmay5 s w hs h3
  by_cases k12 : t = 12
  · subst k12; exact rdmay12 s w hs h3
  by_cases k15 : t = 15
  · subst k15; exact rdmay15 s w hs h3
  by_cases k6 : t = 6
  · subst k6; exact rdmay6 s w hs h3
  by_cases k16 : t = 16
  · subst k16; exact rdmay16 s w hs h3
  exact rdmayRest t s w hs h1 h2 h3 k1 k28 k2 k5 k12 k15 k6 k16
end Go.Proofs.Ytepglkgpgoifkaa.Rd
