/- Contracts of rdata.A, Addr, Mx and Host, and of the document's. -/
import Derived.Test.YtndcjleadggibaaDataMay
namespace Go.Proofs.Ytndcjleadggibaa.Rd
open Go.RowKit Go.PlainAid Go.Proofs.Ytndcjleadggibaa.Base Go.Proofs.Ytndcjleadggibaa.Oct Go.Proofs.Ytndcjleadggibaa.Sl Go.Proofs.Ytndcjleadggibaa.Nm
set_option linter.unusedVariables false

/-- A string and a number. -/
def ans (s : ByteArray) (e : Int) : Ending := .returned (.tuple #[.string s, .int .i64 e])
def emp : ByteArray := ⟨#[]⟩
/-- A number of 32 bits? -/
def wideB (x : Int) : Bool := decide (0 ≤ x) && decide (x ≤ 4294967295)
def aS (x : Int) : ByteArray := if wideB x then p32 x else emp
def aE (x : Int) : Int := if wideB x then 0 else 400
def addrX (s : ByteArray) : Int := if s.size = 4 then be4 s 0 else 0
def addrE (s : ByteArray) : Int := if s.size = 4 then 0 else 400
def mxB (x : Int) (h : ByteArray) : Bool := decide (0 ≤ x) && (decide (x ≤ 65535) && nameB h)
def mxS (x : Int) (h : ByteArray) : ByteArray := if mxB x h then p16 x ++ h else emp
def mxE (x : Int) (h : ByteArray) : Int := if mxB x h then 0 else 400
theorem nameB_size {s : ByteArray} (h : nameB s = true) : s.size ≤ 255 := by unfold nameB at h; simp at h; exact h.1
def hostB (t : Int) (s : ByteArray) : Bool := mayD t s && decide (t = 2 ∨ t = 5 ∨ t = 12 ∨ t = 15)
def hostS (t : Int) (s : ByteArray) : ByteArray := if hostB t s then (if t = 15 then s.extract 2 s.size else s) else emp
def hostE (t : Int) (s : ByteArray) : Int := if hostB t s then 0 else 400

set_option maxRecDepth 100000 in
set_option maxHeartbeats 1000000 in
theorem rwide (x : Int) (w : World) : Calls Try.prog 52 #[.int .i64 x] w fun e w' => e = .returned (.bool (wideB x)) ∧ Below w.heap.size w w' := by
  by_cases h0 : 0 ≤ x
  · have q0 : decide (0 ≤ x) = true := decide_eq_true h0
    have e1 : wideB x = decide (x ≤ 4294967295) := by unfold wideB; rw [q0]; rfl
    clear h0
    go_enter Try.func52, Try.ntmps52
    go_wp2
    go_ret
    exact ⟨by first | rfl | (rw [e1]; rfl), Below.refl _ _⟩
  · have q0 : decide (0 ≤ x) = false := decide_eq_false h0
    have e1 : wideB x = false := by unfold wideB; rw [q0]; rfl
    clear h0
    go_enter Try.func52, Try.ntmps52
    go_wp2
    go_ret
    exact ⟨by first | rfl | (rw [e1]; rfl), Below.refl _ _⟩

set_option maxRecDepth 100000 in
set_option maxHeartbeats 1000000 in
theorem ac (x : Int) (w : World) : Calls Try.prog 25 #[.int .i64 x] w fun e w' => e = ans (aS x) (aE x) ∧ Below w.heap.size w w' := by
  unfold ans
  by_cases h0 : x < 0
  · have q0 : decide (x < 0) = true := decide_eq_true h0
    have e1 : wideB x = false := by unfold wideB; simp; omega
    have e2 : aS x = emp := by unfold aS; rw [e1]; rfl
    have e3 : aE x = 400 := by unfold aE; rw [e1]; rfl
    rw [e2, e3]
    clear h0 e1 e2 e3
    go_enter Try.func25, Try.ntmps25
    go_wp2
    go_ret2
    exact ⟨rfl, Below.refl _ _⟩
  · have q0 : decide (x < 0) = false := decide_eq_false h0
    by_cases h1 : 4294967295 < x
    · have q1 : decide (4294967295 < x) = true := decide_eq_true h1
      have e1 : wideB x = false := by unfold wideB; simp; omega
      have e2 : aS x = emp := by unfold aS; rw [e1]; rfl
      have e3 : aE x = 400 := by unfold aE; rw [e1]; rfl
      rw [e2, e3]
      clear h0 h1 e1 e2 e3
      go_enter Try.func25, Try.ntmps25
      go_wp2
      go_ret2
      exact ⟨rfl, Below.refl _ _⟩
    · have q1 : decide (4294967295 < x) = false := decide_eq_false h1
      have e1 : wideB x = true := by unfold wideB; simp; omega
      have e2 : aS x = p32 x := by unfold aS; rw [e1]; rfl
      have e3 : aE x = 0 := by unfold aE; rw [e1]; rfl
      rw [e2, e3]
      clear h0 h1 e1 e2 e3
      go_enter Try.func25, Try.ntmps25
      go_wp2_with fail
      refine (put32 x _).mono ?_
      rintro e w1 ⟨rfl, hb1⟩
      go_wp2
      go_ret2
      exact ⟨rfl, hb1⟩

set_option maxRecDepth 100000 in
set_option maxHeartbeats 1000000 in
theorem rac (x : Int) (w : World) : Calls Try.prog 26 #[.int .i64 x] w fun e w' => e = ans (aS x) (aE x) ∧ Below w.heap.size w w' := by
  unfold ans aS aE
  cases h : wideB x with
  | true =>
    go_enter Try.func26, Try.ntmps26
    go_wp2_with fail
    refine (rwide x _).mono ?_
    rintro e w1 ⟨rfl, hb1⟩
    rw [h]
    go_wp2_with fail
    refine (rbe4 x _).mono ?_
    rintro e w2 ⟨rfl, hb2⟩
    go_wp2
    go_ret2
    exact ⟨rfl, below_next hb1 hb2⟩
  | false =>
    go_enter Try.func26, Try.ntmps26
    go_wp2_with fail
    refine (rwide x _).mono ?_
    rintro e w1 ⟨rfl, hb1⟩
    rw [h]
    go_wp2
    go_ret2
    exact ⟨rfl, hb1⟩

set_option maxRecDepth 100000 in
set_option maxHeartbeats 1000000 in
theorem addrc (s : ByteArray) (w : World) (hs : s.size ≤ 9223372036854775000) : Calls Try.prog 27 #[.string s] w fun e w' => e = .returned (.tuple #[.int .i64 (addrX s), .int .i64 (addrE s)]) ∧ Below w.heap.size w w' := by
  unfold addrX addrE
  by_cases h : s.size = 4
  · have q0 : ((s.size : Int) != 4) = false := by simp; omega
    rw [if_pos h, if_pos h]
    have H := Lib.hid h
    clear h
    go_enter Try.func27, Try.ntmps27
    go_wp2_with fail
    refine (u32z s 0 _ hs (by omega) (by have := H.out; omega)).mono ?_
    rintro e w1 ⟨rfl, rfl⟩
    go_wp2
    go_ret2
    exact ⟨rfl, Below.refl _ _⟩
  · have q0 : ((s.size : Int) != 4) = true := by simp; omega
    rw [if_neg h, if_neg h]
    clear h
    go_enter Try.func27, Try.ntmps27
    go_wp2
    go_ret2
    exact ⟨rfl, Below.refl _ _⟩

set_option maxRecDepth 100000 in
set_option maxHeartbeats 1000000 in
theorem raddrc (s : ByteArray) (w : World) (hs : s.size ≤ 9223372036854775000) : Calls Try.prog 28 #[.string s] w fun e w' => e = .returned (.tuple #[.int .i64 (addrX s), .int .i64 (addrE s)]) ∧ Below w.heap.size w w' := by
  unfold addrX addrE
  by_cases h : s.size = 4
  · have q0 : ((s.size : Int) != 4) = false := by simp; omega
    rw [if_pos h, if_pos h]
    have H := Lib.hid h
    clear h
    go_enter Try.func28, Try.ntmps28
    go_wp2_with fail
    refine (rnum4z s 0 _ hs (by omega) (by have := H.out; omega)).mono ?_
    rintro e w1 ⟨rfl, rfl⟩
    go_wp2
    go_ret2
    exact ⟨rfl, Below.refl _ _⟩
  · have q0 : ((s.size : Int) != 4) = true := by simp; omega
    rw [if_neg h, if_neg h]
    clear h
    go_enter Try.func28, Try.ntmps28
    go_wp2
    go_ret2
    exact ⟨rfl, Below.refl _ _⟩

set_option maxRecDepth 100000 in
set_option maxHeartbeats 1000000 in
theorem mxc (x : Int) (s : ByteArray) (w : World) : Calls Try.prog 29 #[.int .i64 x, .string s] w fun e w' => e = ans (mxS x s) (mxE x s) ∧ Below w.heap.size w w' := by
  unfold ans
  by_cases h0 : x < 0
  · have q0 : decide (x < 0) = true := decide_eq_true h0
    have e1 : mxB x s = false := by unfold mxB; simp; omega
    have e2 : mxS x s = emp := by unfold mxS; rw [e1]; rfl
    have e3 : mxE x s = 400 := by unfold mxE; rw [e1]; rfl
    rw [e2, e3]
    clear h0 e1 e2 e3
    go_enter Try.func29, Try.ntmps29
    go_wp2
    go_ret2
    exact ⟨rfl, Below.refl _ _⟩
  · have q0 : decide (x < 0) = false := decide_eq_false h0
    by_cases h1 : 65535 < x
    · have q1 : decide (65535 < x) = true := decide_eq_true h1
      have e1 : mxB x s = false := by unfold mxB; simp; omega
      have e2 : mxS x s = emp := by unfold mxS; rw [e1]; rfl
      have e3 : mxE x s = 400 := by unfold mxE; rw [e1]; rfl
      rw [e2, e3]
      clear h0 h1 e1 e2 e3
      go_enter Try.func29, Try.ntmps29
      go_wp2
      go_ret2
      exact ⟨rfl, Below.refl _ _⟩
    · have q1 : decide (65535 < x) = false := decide_eq_false h1
      have e1 : mxB x s = nameB s := by unfold mxB; rw [decide_eq_true (show 0 ≤ x by omega), decide_eq_true (show x ≤ 65535 by omega)]; rfl
      unfold mxS mxE
      rw [e1]
      clear h0 h1 e1
      cases h : nameB s with
      | true =>
        have hpl : ¬ 9223372036854775807 < (p16 x).size + s.size := by rw [p16_size]; have := nameB_size h; omega
        go_enter Try.func29, Try.ntmps29
        go_wp2_with fail
        refine (may s _).mono ?_
        rintro e w1 ⟨rfl, hb1⟩
        rw [h]
        go_wp2_with fail
        refine (put16 x _).mono ?_
        rintro e w2 ⟨rfl, hb2⟩
        go_wp2
        go_ret2
        exact ⟨rfl, below_next hb1 hb2⟩
      | false =>
        go_enter Try.func29, Try.ntmps29
        go_wp2_with fail
        refine (may s _).mono ?_
        rintro e w1 ⟨rfl, hb1⟩
        rw [h]
        go_wp2
        go_ret2
        exact ⟨rfl, hb1⟩

set_option maxRecDepth 100000 in
set_option maxHeartbeats 1000000 in
theorem rmxc (x : Int) (s : ByteArray) (w : World) : Calls Try.prog 30 #[.int .i64 x, .string s] w fun e w' => e = ans (mxS x s) (mxE x s) ∧ Below w.heap.size w w' := by
  unfold ans
  by_cases h0 : x < 0
  · have q0 : decide (x < 0) = true := decide_eq_true h0
    have e1 : mxB x s = false := by unfold mxB; simp; omega
    have e2 : mxS x s = emp := by unfold mxS; rw [e1]; rfl
    have e3 : mxE x s = 400 := by unfold mxE; rw [e1]; rfl
    rw [e2, e3]
    clear h0 e1 e2 e3
    go_enter Try.func30, Try.ntmps30
    go_wp2
    go_ret2
    exact ⟨rfl, Below.refl _ _⟩
  · have q0 : decide (x < 0) = false := decide_eq_false h0
    by_cases h1 : 65535 < x
    · have q1 : decide (65535 < x) = true := decide_eq_true h1
      have e1 : mxB x s = false := by unfold mxB; simp; omega
      have e2 : mxS x s = emp := by unfold mxS; rw [e1]; rfl
      have e3 : mxE x s = 400 := by unfold mxE; rw [e1]; rfl
      rw [e2, e3]
      clear h0 h1 e1 e2 e3
      go_enter Try.func30, Try.ntmps30
      go_wp2
      go_ret2
      exact ⟨rfl, Below.refl _ _⟩
    · have q1 : decide (65535 < x) = false := decide_eq_false h1
      have e1 : mxB x s = nameB s := by unfold mxB; rw [decide_eq_true (show 0 ≤ x by omega), decide_eq_true (show x ≤ 65535 by omega)]; rfl
      unfold mxS mxE
      rw [e1]
      clear h0 h1 e1
      cases h : nameB s with
      | true =>
        have hpl : ¬ 9223372036854775807 < (p16 x).size + s.size := by rw [p16_size]; have := nameB_size h; omega
        go_enter Try.func30, Try.ntmps30
        go_wp2_with fail
        refine (rmay s _).mono ?_
        rintro e w1 ⟨rfl, hb1⟩
        rw [h]
        go_wp2_with fail
        refine (rbe2 x _).mono ?_
        rintro e w2 ⟨rfl, hb2⟩
        go_wp2
        go_ret2
        exact ⟨rfl, below_next hb1 hb2⟩
      | false =>
        go_enter Try.func30, Try.ntmps30
        go_wp2_with fail
        refine (rmay s _).mono ?_
        rintro e w1 ⟨rfl, hb1⟩
        rw [h]
        go_wp2
        go_ret2
        exact ⟨rfl, hb1⟩

theorem may15 {s : ByteArray} (h : mayD 15 s = true) : 2 ≤ s.size := by
  by_cases h3 : 65535 < s.size
  · omega
  · rw [mayD_body (by decide) (by decide) h3] at h
    simp at h
    exact h.1

set_option maxRecDepth 100000 in
set_option maxHeartbeats 1000000 in
theorem hostc2 (s : ByteArray) (w : World) (hs : s.size ≤ 9223372036854775000) : Calls Try.prog 31 #[.int .i64 2, .string s] w fun e w' => e = ans (hostS 2 s) (hostE 2 s) ∧ Below w.heap.size w w' := by
  unfold ans hostS hostE
  have e1 : hostB 2 s = mayD 2 s := by unfold hostB; simp
  rw [e1]
  clear e1
  cases h : mayD 2 s with
  | true =>
    go_enter Try.func31, Try.ntmps31
    go_wp2_with fail
    refine (dmay 2 s _ hs).mono ?_
    rintro e w1 ⟨rfl, hb1⟩
    rw [h]
    go_wp2
    go_ret2
    exact ⟨rfl, hb1⟩
  | false =>
    go_enter Try.func31, Try.ntmps31
    go_wp2_with fail
    refine (dmay 2 s _ hs).mono ?_
    rintro e w1 ⟨rfl, hb1⟩
    rw [h]
    go_wp2
    go_ret2
    exact ⟨rfl, hb1⟩

set_option maxRecDepth 100000 in
set_option maxHeartbeats 1000000 in
theorem hostc5 (s : ByteArray) (w : World) (hs : s.size ≤ 9223372036854775000) : Calls Try.prog 31 #[.int .i64 5, .string s] w fun e w' => e = ans (hostS 5 s) (hostE 5 s) ∧ Below w.heap.size w w' := by
  unfold ans hostS hostE
  have e1 : hostB 5 s = mayD 5 s := by unfold hostB; simp
  rw [e1]
  clear e1
  cases h : mayD 5 s with
  | true =>
    go_enter Try.func31, Try.ntmps31
    go_wp2_with fail
    refine (dmay 5 s _ hs).mono ?_
    rintro e w1 ⟨rfl, hb1⟩
    rw [h]
    go_wp2
    go_ret2
    exact ⟨rfl, hb1⟩
  | false =>
    go_enter Try.func31, Try.ntmps31
    go_wp2_with fail
    refine (dmay 5 s _ hs).mono ?_
    rintro e w1 ⟨rfl, hb1⟩
    rw [h]
    go_wp2
    go_ret2
    exact ⟨rfl, hb1⟩

set_option maxRecDepth 100000 in
set_option maxHeartbeats 1000000 in
theorem hostc12 (s : ByteArray) (w : World) (hs : s.size ≤ 9223372036854775000) : Calls Try.prog 31 #[.int .i64 12, .string s] w fun e w' => e = ans (hostS 12 s) (hostE 12 s) ∧ Below w.heap.size w w' := by
  unfold ans hostS hostE
  have e1 : hostB 12 s = mayD 12 s := by unfold hostB; simp
  rw [e1]
  clear e1
  cases h : mayD 12 s with
  | true =>
    go_enter Try.func31, Try.ntmps31
    go_wp2_with fail
    refine (dmay 12 s _ hs).mono ?_
    rintro e w1 ⟨rfl, hb1⟩
    rw [h]
    go_wp2
    go_ret2
    exact ⟨rfl, hb1⟩
  | false =>
    go_enter Try.func31, Try.ntmps31
    go_wp2_with fail
    refine (dmay 12 s _ hs).mono ?_
    rintro e w1 ⟨rfl, hb1⟩
    rw [h]
    go_wp2
    go_ret2
    exact ⟨rfl, hb1⟩

set_option maxRecDepth 100000 in
set_option maxHeartbeats 1000000 in
theorem hostc15 (s : ByteArray) (w : World) (hs : s.size ≤ 9223372036854775000) : Calls Try.prog 31 #[.int .i64 15, .string s] w fun e w' => e = ans (hostS 15 s) (hostE 15 s) ∧ Below w.heap.size w w' := by
  unfold ans hostS hostE
  have e1 : hostB 15 s = mayD 15 s := by unfold hostB; simp
  rw [e1]
  clear e1
  cases h : mayD 15 s with
  | true =>
    have h2 : 2 ≤ s.size := may15 h
    go_enter Try.func31, Try.ntmps31
    go_wp2_with fail
    refine (dmay 15 s _ hs).mono ?_
    rintro e w1 ⟨rfl, hb1⟩
    rw [h]
    go_wp2
    go_ret2
    exact ⟨rfl, hb1⟩
  | false =>
    go_enter Try.func31, Try.ntmps31
    go_wp2_with fail
    refine (dmay 15 s _ hs).mono ?_
    rintro e w1 ⟨rfl, hb1⟩
    rw [h]
    go_wp2
    go_ret2
    exact ⟨rfl, hb1⟩

set_option maxRecDepth 100000 in
set_option maxHeartbeats 1000000 in
theorem hostcRest (t : Int) (s : ByteArray) (w : World) (hs : s.size ≤ 9223372036854775000) (k2 : ¬ t = 2) (k5 : ¬ t = 5) (k12 : ¬ t = 12) (k15 : ¬ t = 15) : Calls Try.prog 31 #[.int .i64 t, .string s] w fun e w' => e = ans (hostS t s) (hostE t s) ∧ Below w.heap.size w w' := by
  have e1 : hostB t s = false := by unfold hostB; simp [k2, k5, k12, k15]
  unfold ans hostS hostE
  rw [e1]
  have q2 : (t == 2) = false := by simp [k2]
  have q5 : (t == 5) = false := by simp [k5]
  have q12 : (t == 12) = false := by simp [k12]
  have q15 : (t == 15) = false := by simp [k15]
  clear k2 k5 k12 k15 e1
  cases h : mayD t s with
  | true =>
    go_enter Try.func31, Try.ntmps31
    go_wp2_with fail
    refine (dmay t s _ hs).mono ?_
    rintro e w1 ⟨rfl, hb1⟩
    rw [h]
    go_wp2
    go_ret2
    exact ⟨rfl, hb1⟩
  | false =>
    go_enter Try.func31, Try.ntmps31
    go_wp2_with fail
    refine (dmay t s _ hs).mono ?_
    rintro e w1 ⟨rfl, hb1⟩
    rw [h]
    go_wp2
    go_ret2
    exact ⟨rfl, hb1⟩

theorem hostc (t : Int) (s : ByteArray) (w : World) (hs : s.size ≤ 9223372036854775000) : Calls Try.prog 31 #[.int .i64 t, .string s] w fun e w' => e = ans (hostS t s) (hostE t s) ∧ Below w.heap.size w w' := by
  by_cases k2 : t = 2
  · subst k2; exact hostc2 s w hs
  by_cases k5 : t = 5
  · subst k5; exact hostc5 s w hs
  by_cases k12 : t = 12
  · subst k12; exact hostc12 s w hs
  by_cases k15 : t = 15
  · subst k15; exact hostc15 s w hs
  exact hostcRest t s w hs k2 k5 k12 k15

set_option maxRecDepth 100000 in
set_option maxHeartbeats 1000000 in
theorem rhostc2 (s : ByteArray) (w : World) (hs : s.size ≤ 9223372036854775000) : Calls Try.prog 32 #[.int .i64 2, .string s] w fun e w' => e = ans (hostS 2 s) (hostE 2 s) ∧ Below w.heap.size w w' := by
  unfold ans hostS hostE
  have e1 : hostB 2 s = mayD 2 s := by unfold hostB; simp
  rw [e1]
  clear e1
  cases h : mayD 2 s with
  | true =>
    go_enter Try.func32, Try.ntmps32
    go_wp2_with fail
    refine (rdmay 2 s _ hs).mono ?_
    rintro e w1 ⟨rfl, hb1⟩
    rw [h]
    go_wp2
    go_ret2
    exact ⟨rfl, hb1⟩
  | false =>
    go_enter Try.func32, Try.ntmps32
    go_wp2_with fail
    refine (rdmay 2 s _ hs).mono ?_
    rintro e w1 ⟨rfl, hb1⟩
    rw [h]
    go_wp2
    go_ret2
    exact ⟨rfl, hb1⟩

set_option maxRecDepth 100000 in
set_option maxHeartbeats 1000000 in
theorem rhostc5 (s : ByteArray) (w : World) (hs : s.size ≤ 9223372036854775000) : Calls Try.prog 32 #[.int .i64 5, .string s] w fun e w' => e = ans (hostS 5 s) (hostE 5 s) ∧ Below w.heap.size w w' := by
  unfold ans hostS hostE
  have e1 : hostB 5 s = mayD 5 s := by unfold hostB; simp
  rw [e1]
  clear e1
  cases h : mayD 5 s with
  | true =>
    go_enter Try.func32, Try.ntmps32
    go_wp2_with fail
    refine (rdmay 5 s _ hs).mono ?_
    rintro e w1 ⟨rfl, hb1⟩
    rw [h]
    go_wp2
    go_ret2
    exact ⟨rfl, hb1⟩
  | false =>
    go_enter Try.func32, Try.ntmps32
    go_wp2_with fail
    refine (rdmay 5 s _ hs).mono ?_
    rintro e w1 ⟨rfl, hb1⟩
    rw [h]
    go_wp2
    go_ret2
    exact ⟨rfl, hb1⟩

set_option maxRecDepth 100000 in
set_option maxHeartbeats 1000000 in
theorem rhostc12 (s : ByteArray) (w : World) (hs : s.size ≤ 9223372036854775000) : Calls Try.prog 32 #[.int .i64 12, .string s] w fun e w' => e = ans (hostS 12 s) (hostE 12 s) ∧ Below w.heap.size w w' := by
  unfold ans hostS hostE
  have e1 : hostB 12 s = mayD 12 s := by unfold hostB; simp
  rw [e1]
  clear e1
  cases h : mayD 12 s with
  | true =>
    go_enter Try.func32, Try.ntmps32
    go_wp2_with fail
    refine (rdmay 12 s _ hs).mono ?_
    rintro e w1 ⟨rfl, hb1⟩
    rw [h]
    go_wp2
    go_ret2
    exact ⟨rfl, hb1⟩
  | false =>
    go_enter Try.func32, Try.ntmps32
    go_wp2_with fail
    refine (rdmay 12 s _ hs).mono ?_
    rintro e w1 ⟨rfl, hb1⟩
    rw [h]
    go_wp2
    go_ret2
    exact ⟨rfl, hb1⟩

set_option maxRecDepth 100000 in
set_option maxHeartbeats 1000000 in
theorem rhostc15 (s : ByteArray) (w : World) (hs : s.size ≤ 9223372036854775000) : Calls Try.prog 32 #[.int .i64 15, .string s] w fun e w' => e = ans (hostS 15 s) (hostE 15 s) ∧ Below w.heap.size w w' := by
  unfold ans hostS hostE
  have e1 : hostB 15 s = mayD 15 s := by unfold hostB; simp
  rw [e1]
  clear e1
  cases h : mayD 15 s with
  | true =>
    have h2 : 2 ≤ s.size := may15 h
    go_enter Try.func32, Try.ntmps32
    go_wp2_with fail
    refine (rdmay 15 s _ hs).mono ?_
    rintro e w1 ⟨rfl, hb1⟩
    rw [h]
    go_wp2
    go_ret2
    exact ⟨rfl, hb1⟩
  | false =>
    go_enter Try.func32, Try.ntmps32
    go_wp2_with fail
    refine (rdmay 15 s _ hs).mono ?_
    rintro e w1 ⟨rfl, hb1⟩
    rw [h]
    go_wp2
    go_ret2
    exact ⟨rfl, hb1⟩

set_option maxRecDepth 100000 in
set_option maxHeartbeats 1000000 in
theorem rhostcRest (t : Int) (s : ByteArray) (w : World) (hs : s.size ≤ 9223372036854775000) (k2 : ¬ t = 2) (k5 : ¬ t = 5) (k12 : ¬ t = 12) (k15 : ¬ t = 15) : Calls Try.prog 32 #[.int .i64 t, .string s] w fun e w' => e = ans (hostS t s) (hostE t s) ∧ Below w.heap.size w w' := by
  have e1 : hostB t s = false := by unfold hostB; simp [k2, k5, k12, k15]
  unfold ans hostS hostE
  rw [e1]
  have q2 : (t == 2) = false := by simp [k2]
  have q5 : (t == 5) = false := by simp [k5]
  have q12 : (t == 12) = false := by simp [k12]
  have q15 : (t == 15) = false := by simp [k15]
  clear k2 k5 k12 k15 e1
  go_enter Try.func32, Try.ntmps32
  go_wp2
  go_ret2
  exact ⟨rfl, Below.refl _ _⟩

theorem rhostc (t : Int) (s : ByteArray) (w : World) (hs : s.size ≤ 9223372036854775000) : Calls Try.prog 32 #[.int .i64 t, .string s] w fun e w' => e = ans (hostS t s) (hostE t s) ∧ Below w.heap.size w w' := by
  by_cases k2 : t = 2
  · subst k2; exact rhostc2 s w hs
  by_cases k5 : t = 5
  · subst k5; exact rhostc5 s w hs
  by_cases k12 : t = 12
  · subst k12; exact rhostc12 s w hs
  by_cases k15 : t = 15
  · subst k15; exact rhostc15 s w hs
  exact rhostcRest t s w hs k2 k5 k12 k15
end Go.Proofs.Ytndcjleadggibaa.Rd
