/- Contracts of rdata.Ends, texts, soa and May, and of the document's whole, texts and DataMay. -/
import Derived.Test.YtepglkgpgoifkaaName2
namespace Go.Proofs.Ytepglkgpgoifkaa.Rd
open Go.RowKit Go.PlainAid Go.Proofs.Ytepglkgpgoifkaa.Base Go.Proofs.Ytepglkgpgoifkaa.Oct Go.Proofs.Ytepglkgpgoifkaa.Sl Go.Proofs.Ytepglkgpgoifkaa.Nm
set_option linter.unusedVariables false

theorem zeroAt_next1 {s : ByteArray} {i : Nat} {z : Option Nat} (hz : zeroAt s i = z) (h : i < s.size) (h0 : bt s i ≠ 0) : zeroAt s (i + 1 + (bt s i).toNat) = z := by rw [← zeroAt_next h h0]; exact hz
theorem slice_ab (s : ByteArray) (a b : Nat) (h : a ≤ b) (hb : b ≤ s.size) (w : World) : (Instr.slice 9 (.string s) (some (.int .i64 (a : Int))) (some (.int .i64 (b : Int))) none).run Try.prog w = .ok (.string (s.extract a b)) w := by
  have := run_slice_string (P := Try.prog) w 9 s .i64 .i64 (a : Int) (b : Int) Try.underlying9 (by omega) (by omega) (by omega)
  simpa using this
theorem step1 {s : ByteArray} {i : Nat} (hs : s.size ≤ 9223372036854775000) (h : i < s.size) : wrap64 ((i : Int) + wrap64 (1 + bt s i)) = ((i + 1 + (bt s i).toNat : Nat) : Int) := by
  have := bt_nonneg s i; have := bt_le s i
  rw [w64 (x := 1 + bt s i) (by omega) (by omega), w64 (by omega) (by omega)]; omega
theorem step2 {s : ByteArray} {i : Nat} (hs : s.size ≤ 9223372036854775000) (h : i < s.size) : wrap64 ((i : Int) + 1 + bt s i) = ((i + 1 + (bt s i).toNat : Nat) : Int) := by
  have := bt_nonneg s i; have := bt_le s i
  rw [w64 (by omega) (by omega)]; omega
theorem step3 {s : ByteArray} {i : Nat} (hs : s.size ≤ 9223372036854775000) (h : i < s.size) : wrap64 (wrap64 ((i : Int) + bt s i) + 1) = ((i + 1 + (bt s i).toNat : Nat) : Int) := by
  have := bt_nonneg s i; have := bt_le s i
  rw [w64 (x := (i : Int) + bt s i) (by omega) (by omega), w64 (by omega) (by omega)]; omega

set_option maxHeartbeats 1000000 in
theorem ends (s : ByteArray) (w : World) (hs : s.size ≤ 9223372036854775000) : Calls Try.prog 59 #[.string s] w fun e w' => e = .returned (.int .i64 (endN s 0)) ∧ Below w.heap.size w w' := by
  go_enter Try.func59, Try.ntmps59
  go_wp2
  go_loopg [3] (s.size + 256) (fun k v3 wr => ∃ i : Nat, v3 = .int .i64 i ∧ i + k ≤ s.size + 256 ∧ s.size + 256 ≤ i + k ∧ i ≤ s.size + 255 ∧ zeroAt s i = zeroAt s 0 ∧ w = wr)
  case atStart => exact ⟨0, rfl, by omega, by omega, by omega, rfl, rfl⟩
  case round =>
    obtain ⟨i, rfl, hk1, hk2, hk3, hZ, rfl⟩ := hrel
    have HZ := Lib.hid hZ
    clear hZ
    by_cases hlt : i < s.size
    · have q0 : decide ((i : Int) < s.size) = true := by simp; omega
      by_cases h255 : i < 255
      · have q2 : decide ((i : Int) < 255) = true := by simp; omega
        have hb := get_bt s
        have wb : wrap64 (bt s i) = bt s i := w64 (by have := bt_nonneg s i; omega) (by have := bt_le s i; omega)
        have w1 : wrap64 ((i : Int) + 1) = ((i + 1 : Nat) : Int) := by rw [w64 (by omega) (by omega)]; omega
        by_cases hz : bt s i = 0
        · have q1 : (bt s i == 0) = true := by simp [hz]
          have H0 := Lib.hid hz
          clear hz
          cases hm : nameB (s.extract 0 (i + 1)) with
          | true =>
            go_wp2_with fail
            refine (may _ _).mono ?_
            rintro e w2 ⟨rfl, hb2⟩
            rw [hm]
            go_wp2
            go_ret
            exact ⟨by rw [endN_of HZ.out hlt H0.out, hm]; simp, hb2⟩
          | false =>
            go_wp2_with fail
            refine (may _ _).mono ?_
            rintro e w2 ⟨rfl, hb2⟩
            rw [hm]
            go_wp2
            go_ret
            exact ⟨by rw [endN_of HZ.out hlt H0.out, hm]; simp, hb2⟩
        · have q1 : (bt s i == 0) = false := by simp [hz]
          have H0 := Lib.hid hz
          clear hz
          have ws := step1 hs hlt
          go_wp2
          go_roundg (gk - 1 - (bt s i).toNat)
          case measure => omega
          case rel =>
            have := bt_nonneg s i; have := bt_le s i
            exact ⟨i + 1 + (bt s i).toNat, congrArg _ ws, by omega, by omega, by omega, zeroAt_next1 HZ.out hlt H0.out, rfl⟩
      · have q2 : decide ((i : Int) < 255) = false := by simp; omega
        go_wp2
        go_ret
        exact ⟨by rw [endN_far HZ.out (by omega)]; rfl, Below.refl _ _⟩
    · have q0 : decide ((i : Int) < s.size) = false := by simp; omega
      go_wp2
      go_ret
      exact ⟨by rw [endN_out HZ.out (by omega)]; rfl, Below.refl _ _⟩
set_option maxRecDepth 100000 in
set_option maxHeartbeats 1000000 in
theorem whole (s : ByteArray) (a : Nat) (w : World) (hs : s.size ≤ 9223372036854775000) (ha : a ≤ s.size) : Calls Try.prog 70 #[.string s, .int .i64 a] w fun e w' => e = .returned (.int .i64 (endN s a)) ∧ Below w.heap.size w w' := by
  go_enter Try.func70, Try.ntmps70
  go_wp2
  go_loopg [5, 6] (s.size + 256 - a) (fun k v5 v6 wr => ∃ i : Nat, v5 = .int .i64 i ∧ i + k ≤ s.size + 256 ∧ s.size + 256 ≤ i + k ∧ i ≤ s.size + 255 ∧ a ≤ i ∧ zeroAt s i = zeroAt s a ∧ w = wr)
  case atStart => exact ⟨a, rfl, by omega, by omega, by omega, by omega, rfl, rfl⟩
  case round =>
    obtain ⟨i, rfl, hk1, hk2, hk3, hai, hZ, rfl⟩ := hrel
    have HZ := Lib.hid hZ
    clear hZ
    by_cases hlt : i < s.size
    · have q0 : decide ((i : Int) < s.size) = true := by simp; omega
      have hb := get_bt s
      have wb : wrap64 (bt s i) = bt s i := w64 (by have := bt_nonneg s i; omega) (by have := bt_le s i; omega)
      have w1 : wrap64 ((i : Int) + 1) = ((i + 1 : Nat) : Int) := by rw [w64 (by omega) (by omega)]; omega
      have hsl := slice_ab s a (i + 1) (by omega) (by omega) w
      rw [show ((i + 1 : Nat) : Int) = (i : Int) + 1 from by omega] at hsl
      by_cases hz : bt s i = 0
      · have q1 : (bt s i == 0) = true := by simp [hz]
        have H0 := Lib.hid hz
        clear hz
        cases hm : nameB (s.extract a (i + 1)) with
        | true =>
          go_wp2_with fail
          refine (rmay _ _).mono ?_
          rintro e w2 ⟨rfl, hb2⟩
          rw [hm]
          go_wp2
          go_ret
          exact ⟨by rw [endN_of HZ.out hlt H0.out, hm]; simp, hb2⟩
        | false =>
          go_wp2_with fail
          refine (rmay _ _).mono ?_
          rintro e w2 ⟨rfl, hb2⟩
          rw [hm]
          go_wp2
          go_ret
          exact ⟨by rw [endN_of HZ.out hlt H0.out, hm]; simp, hb2⟩
      · have q1 : (bt s i == 0) = false := by simp [hz]
        have H0 := Lib.hid hz
        clear hz
        have ws := step3 hs hlt
        go_wp2
        go_roundg (gk - 1 - (bt s i).toNat)
        case measure => omega
        case rel =>
          have := bt_nonneg s i; have := bt_le s i
          exact ⟨i + 1 + (bt s i).toNat, congrArg _ ws, by omega, by omega, by omega, by omega, zeroAt_next1 HZ.out hlt H0.out, rfl⟩
    · have q0 : decide ((i : Int) < s.size) = false := by simp; omega
      go_wp2
      go_ret
      exact ⟨by rw [endN_out HZ.out (by omega)]; rfl, Below.refl _ _⟩

/-- From a place on: do texts follow up to the end? -/
def textsAt (s : ByteArray) (i : Nat) : Bool :=
  if i < s.size then textsAt s (i + 1 + (bt s i).toNat) else decide (i = s.size)
termination_by s.size - i
theorem textsAt_next {s : ByteArray} {i : Nat} (h : i < s.size) : textsAt s i = textsAt s (i + 1 + (bt s i).toNat) := by rw [textsAt, if_pos h]
theorem textsAt_next1 {s : ByteArray} {i : Nat} {z : Bool} (hz : textsAt s i = z) (h : i < s.size) : textsAt s (i + 1 + (bt s i).toNat) = z := by rw [← textsAt_next h]; exact hz
theorem textsAt_end {s : ByteArray} {i : Nat} (h : ¬ i < s.size) : textsAt s i = decide (i = s.size) := by rw [textsAt, if_neg h]
theorem isEmpty_no {s : ByteArray} (h : ¬ s.size = 0) : s.toList.isEmpty = false := by
  rw [ByteArray.toList_eq]
  cases e : s.data.toList with
  | nil => exact absurd (by rw [← len_data, e]; rfl) h
  | cons a b => rfl
theorem isEmpty_yes {s : ByteArray} (h : s.size = 0) : s.toList.isEmpty = true := by
  rw [ByteArray.toList_eq]
  cases e : s.data.toList with
  | nil => rfl
  | cons a b => exact absurd h (by rw [← len_data, e]; simp)
/-- One or more texts? -/
def textsB (s : ByteArray) : Bool := decide (0 < s.size) && textsAt s 0

set_option maxHeartbeats 1000000 in
theorem texts (s : ByteArray) (w : World) (hs : s.size ≤ 9223372036854775000) : Calls Try.prog 47 #[.string s] w fun e w' => e = .returned (.bool (textsB s)) ∧ w = w' := by
  go_enter Try.func47, Try.ntmps47
  go_wp2
  go_loopg [3] (s.size + 256) (fun k v3 wr => ∃ i : Nat, v3 = .int .i64 i ∧ i + k ≤ s.size + 256 ∧ s.size + 256 ≤ i + k ∧ i ≤ s.size + 255 ∧ textsAt s i = textsAt s 0 ∧ w = wr)
  case atStart => exact ⟨0, rfl, by omega, by omega, by omega, rfl, rfl⟩
  case round =>
    obtain ⟨i, rfl, hk1, hk2, hk3, hZ, rfl⟩ := hrel
    have HZ := Lib.hid hZ
    clear hZ
    by_cases hlt : i < s.size
    · have q0 : decide ((i : Int) < s.size) = true := by simp; omega
      have hb := get_bt s
      have wb : wrap64 (bt s i) = bt s i := w64 (by have := bt_nonneg s i; omega) (by have := bt_le s i; omega)
      have ws := step1 hs hlt
      go_wp2
      go_roundg (gk - 1 - (bt s i).toNat)
      case measure => omega
      case rel =>
        have := bt_nonneg s i; have := bt_le s i
        exact ⟨i + 1 + (bt s i).toNat, congrArg _ ws, by omega, by omega, by omega, textsAt_next1 HZ.out hlt, rfl⟩
    · have q0 : decide ((i : Int) < s.size) = false := by simp; omega
      have e1 : textsB s = (decide (0 < s.size) && decide (i = s.size)) := by unfold textsB; rw [← HZ.out, textsAt_end hlt]
      have E := Lib.hid e1
      clear e1
      by_cases h0 : s.size = 0
      · have q1 : s.toList.isEmpty = true := isEmpty_yes h0
        have e2 : textsB s = false := by rw [E.out]; simp; omega
        go_wp2
        go_ret
        exact ⟨by rw [e2]; rfl, rfl⟩
      · have q1 : s.toList.isEmpty = false := isEmpty_no h0
        by_cases hi : i = s.size
        · have q3 : ((i : Int) == s.size) = true := by simp; omega
          have e2 : textsB s = true := by rw [E.out]; simp; omega
          go_wp2
          go_ret
          exact ⟨by rw [e2]; rfl, rfl⟩
        · have q3 : ((i : Int) == s.size) = false := by simp; omega
          have e2 : textsB s = false := by rw [E.out]; simp; omega
          go_wp2
          go_ret
          exact ⟨by rw [e2]; rfl, rfl⟩

set_option maxHeartbeats 1000000 in
theorem rtexts (s : ByteArray) (w : World) (hs : s.size ≤ 9223372036854775000) : Calls Try.prog 71 #[.string s] w fun e w' => e = .returned (.bool (textsB s)) ∧ w = w' := by
  go_enter Try.func71, Try.ntmps71
  go_wp2
  go_loopg [3] (s.size + 256) (fun k v3 wr => ∃ i : Nat, v3 = .int .i64 i ∧ i + k ≤ s.size + 256 ∧ s.size + 256 ≤ i + k ∧ i ≤ s.size + 255 ∧ textsAt s i = textsAt s 0 ∧ w = wr)
  case atStart => exact ⟨0, rfl, by omega, by omega, by omega, rfl, rfl⟩
  case round =>
    obtain ⟨i, rfl, hk1, hk2, hk3, hZ, rfl⟩ := hrel
    have HZ := Lib.hid hZ
    clear hZ
    by_cases hlt : i < s.size
    · have q0 : decide ((i : Int) < s.size) = true := by simp; omega
      have hb := get_bt s
      have wb : wrap64 (bt s i) = bt s i := w64 (by have := bt_nonneg s i; omega) (by have := bt_le s i; omega)
      have ws := step2 hs hlt
      go_wp2
      go_roundg (gk - 1 - (bt s i).toNat)
      case measure => omega
      case rel =>
        have := bt_nonneg s i; have := bt_le s i
        exact ⟨i + 1 + (bt s i).toNat, congrArg _ ws, by omega, by omega, by omega, textsAt_next1 HZ.out hlt, rfl⟩
    · have q0 : decide ((i : Int) < s.size) = false := by simp; omega
      have e1 : textsB s = (decide (0 < s.size) && decide (i = s.size)) := by unfold textsB; rw [← HZ.out, textsAt_end hlt]
      have E := Lib.hid e1
      clear e1
      by_cases hi : i = s.size
      · have q3 : ((i : Int) == s.size) = true := by simp; omega
        by_cases h0 : s.size = 0
        · have q4 : decide (0 < i) = false := by simp; omega
          have e2 : textsB s = false := by rw [E.out]; simp; omega
          have HI := Lib.hid hi
          have H0 := Lib.hid h0
          clear hi h0
          go_wp2
          go_ret
          exact ⟨by rw [e2]; rfl, rfl⟩
        · have q4 : decide (0 < i) = true := by simp; omega
          have e2 : textsB s = true := by rw [E.out]; simp; omega
          have HI := Lib.hid hi
          clear hi
          go_wp2
          go_ret
          exact ⟨by rw [e2]; rfl, rfl⟩
      · have q3 : ((i : Int) == s.size) = false := by simp; omega
        have e2 : textsB s = false := by rw [E.out]; simp; omega
        go_wp2
        go_ret
        exact ⟨by rw [e2]; rfl, rfl⟩
end Go.Proofs.Ytepglkgpgoifkaa.Rd
