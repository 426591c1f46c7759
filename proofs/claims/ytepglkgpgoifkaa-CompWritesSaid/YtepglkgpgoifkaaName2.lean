/- Contracts of name.May and of the document's places and May: what each call answers, for every string. -/
import Derived.Test.YtepglkgpgoifkaaName
namespace Go.Proofs.Ytepglkgpgoifkaa.Nm
open Go.RowKit Go.PlainAid Go.Proofs.Ytepglkgpgoifkaa.Base Go.Proofs.Ytepglkgpgoifkaa.Oct Go.Proofs.Ytepglkgpgoifkaa.Sl
set_option linter.unusedVariables false

theorem places_any (s : ByteArray) (w : World) : Calls Try.prog 30 #[.string s] w (PlacesPost s w) := by
  by_cases h : s.size ≤ 255
  · exact placesShort s w h
  · exact placesLong s w (by omega)
set_option maxHeartbeats 400000 in
theorem may (s : ByteArray) (w : World) : Calls Try.prog 45 #[.string s] w fun e w' => e = .returned (.bool (nameB s)) ∧ Below w.heap.size w w' := by
  go_enter Try.func45, Try.ntmps45
  go_wp2_with fail
  refine (places_any s _).mono ?_
  rintro e w' ⟨v, rfl, hb, _⟩
  go_wp2
  go_ret
  exact ⟨rfl, hb⟩
theorem placesLongBad {s : ByteArray} {w : World} {v1 : Value} {w1 : World} (h : ¬ s.size ≤ 255) (hb : Below w.heap.size w w1) : PlacesPost s w (.returned (.tuple #[v1, .bool false])) w1 := by
  have e1 : nameB s = false := by unfold nameB; simp; omega
  exact ⟨v1, by rw [e1], hb, fun h => by rw [e1] at h; cases h⟩
set_option maxHeartbeats 1000000 in
theorem rplacesLong (s : ByteArray) (w : World) (h : ¬ s.size ≤ 255) : Calls Try.prog 34 #[.string s] w (PlacesPost s w) := by
  have q : decide ((s.size : Int) ≤ 255) = false := by simp; omega
  have q0 : decide (0 < s.size) = true := decide_eq_true (by omega)
  have H := Lib.hid h
  clear h
  go_enter Try.func34, Try.ntmps34
  go_wp2
  refine wp_loop_rounds 1 ?_
  rw [rounds_succ]
  go_wp2
  go_ret2
  exact placesLongBad H.out (Below.refl _ _)
set_option maxHeartbeats 2000000 in
theorem rplacesShort (s : ByteArray) (w : World) (h : s.size ≤ 255) : Calls Try.prog 34 #[.string s] w (PlacesPost s w) := by
  have q : decide ((s.size : Int) ≤ 255) = true := by simp; omega
  go_enter Try.func34, Try.ntmps34
  go_wp2
  go_loopg [4, 5, 6] (s.size + 65) (fun k v4 v5 v6 wr => ∃ i : Nat, v5 = .int .i64 i ∧ i + k ≤ s.size + 65 ∧ s.size + 65 ≤ i + k ∧ i ≤ s.size + 64 ∧ Rnd s w i v4 wr)
  case atStart => exact ⟨0, rfl, by omega, by omega, by omega, rfl, ⟨[], rfl, Nat.le_refl _, World.ownsRow_nil _ _ _ _⟩, Below.refl _ _⟩
  case round =>
    obtain ⟨i, rfl, hk1, hk2, hk3, hR⟩ := hrel
    have hnm := Lib.hid hR.nm
    have hbel := hR.bel
    by_cases hlt : i < s.size
    · have q0 : decide ((i : Int) < s.size) = true := by simp; omega
      have hb := get_bt s
      have wb : wrap64 (bt s i) = bt s i := w64 (by have := bt_nonneg s i; omega) (by have := bt_le s i; omega)
      obtain ⟨xs, hxs, hxl, hown⟩ := hR.own
      have HX := Lib.hid hxs
      clear hxs
      have hsz := hbel.size
      by_cases hz : bt s i = 0
      · have q1 : (bt s i == 0) = true := by simp [hz]
        have HZ := Lib.hid hz
        clear hz
        go_wp2_with (at_builtin; refine append_row (w0 := w) w.heap.size rfl _ _ 36 3 (.int .i64 0) 1 8 rfl Try.underlying36 info_int rfl (by decide) hown #[.int .i64 i] rfl rfl rfl ?h1 hbel hsz ?hn ?hl ?_)
        case h1 => rfl
        case hn => omega
        case hl => omega
        intro v1 w1 hown1 hbel1
        go_wp2
        go_ret2
        exact placesEnd h hnm.out hlt HZ.out HX.out hown1 hbel1 (by rw [Bool.eq_iff_iff]; simp; omega)
      · have q1 : (bt s i == 0) = false := by simp [hz]
        have HZ := Lib.hid hz
        clear hz
        by_cases h63 : bt s i ≤ 63
        · have q2 : decide (63 < bt s i) = false := by simp; omega
          have H63 := Lib.hid h63
          clear h63
          have ws : wrap64 ((i : Int) + 1 + bt s i) = ((i + 1 + (bt s i).toNat : Nat) : Int) := by
            have := bt_nonneg s i; have := bt_le s i
            rw [w64 (by omega) (by omega)]; omega
          go_wp2_with (at_builtin; refine append_row (w0 := w) w.heap.size rfl _ _ 36 3 (.int .i64 0) 1 8 rfl Try.underlying36 info_int rfl (by decide) hown #[.int .i64 i] rfl rfl rfl ?h1 hbel hsz ?hn ?hl ?_)
          case h1 => rfl
          case hn => omega
          case hl => omega
          intro v1 w1 hown1 hbel1
          go_wp2
          go_roundg (gk - 1 - (bt s i).toNat)
          case measure => omega
          case rel =>
            have := H63.out; have := bt_nonneg s i
            exact ⟨i + 1 + (bt s i).toNat, congrArg _ ws, by omega, by omega, by omega, Rnd.next hnm.out hlt HZ.out H63.out HX.out hxl hown1 hbel1⟩
        · have q2 : decide (63 < bt s i) = true := by simp; omega
          have H63 := Lib.hid h63
          clear h63
          go_wp2_with (at_builtin; refine append_row (w0 := w) w.heap.size rfl _ _ 36 3 (.int .i64 0) 1 8 rfl Try.underlying36 info_int rfl (by decide) hown #[.int .i64 i] rfl rfl rfl ?h1 hbel hsz ?hn ?hl ?_)
          case h1 => rfl
          case hn => omega
          case hl => omega
          intro v1 w1 hown1 hbel1
          go_wp2
          go_ret2
          exact placesBad hnm.out (nameAt_bad hlt (by have := H63.out; omega)) hbel1
    · have q0 : decide ((i : Int) < s.size) = false := by simp; omega
      go_wp2
      go_ret2
      exact placesBad hnm.out (nameAt_out (by omega)) hbel
theorem rplaces_any (s : ByteArray) (w : World) : Calls Try.prog 34 #[.string s] w (PlacesPost s w) := by
  by_cases h : s.size ≤ 255
  · exact rplacesShort s w h
  · exact rplacesLong s w h
set_option maxHeartbeats 400000 in
theorem rmay (s : ByteArray) (w : World) : Calls Try.prog 21 #[.string s] w fun e w' => e = .returned (.bool (nameB s)) ∧ Below w.heap.size w w' := by
  go_enter Try.func21, Try.ntmps21
  go_wp2_with fail
  refine (rplaces_any s _).mono ?_
  rintro e w' ⟨v, rfl, hb, _⟩
  go_wp2
  go_ret
  exact ⟨rfl, hb⟩

/-! ### Where the name ends that begins at a place -/
def zeroAt (s : ByteArray) (i : Nat) : Option Nat :=
  if i < s.size then
    if bt s i = 0 then some i else zeroAt s (i + 1 + (bt s i).toNat)
  else none
termination_by s.size - i
theorem zeroAt_end {s : ByteArray} {i : Nat} (h : i < s.size) (h0 : bt s i = 0) : zeroAt s i = some i := by rw [zeroAt, if_pos h, if_pos h0]
theorem zeroAt_next {s : ByteArray} {i : Nat} (h : i < s.size) (h0 : bt s i ≠ 0) : zeroAt s i = zeroAt s (i + 1 + (bt s i).toNat) := by rw [zeroAt, if_pos h, if_neg h0]
theorem zeroAt_out {s : ByteArray} {i : Nat} (h : s.size ≤ i) : zeroAt s i = none := by rw [zeroAt, if_neg (by omega)]
theorem zeroAt_ge {s : ByteArray} : ∀ (d i p : Nat), s.size - i ≤ d → zeroAt s i = some p → i ≤ p ∧ p < s.size
  | 0, i, p, hd, h => by rw [zeroAt_out (by omega)] at h; cases h
  | d + 1, i, p, hd, h => by
    by_cases hlt : i < s.size
    · by_cases h0 : bt s i = 0
      · rw [zeroAt_end hlt h0] at h
        cases h
        exact ⟨Nat.le_refl _, hlt⟩
      · rw [zeroAt_next hlt h0] at h
        have := zeroAt_ge d _ p (by omega) h
        omega
    · rw [zeroAt_out (by omega)] at h; cases h
/-- The place behind the name that begins at a place; -1: none. -/
def endN (s : ByteArray) (a : Nat) : Int := match zeroAt s a with
  | some p => if nameB (s.extract a (p + 1)) then (p + 1 : Int) else -1
  | none => -1
theorem endN_of {s : ByteArray} {a i : Nat} (hz : zeroAt s i = zeroAt s a) (h : i < s.size) (h0 : bt s i = 0) : endN s a = if nameB (s.extract a (i + 1)) then (i + 1 : Int) else -1 := by
  unfold endN; rw [← hz, zeroAt_end h h0]
theorem endN_out {s : ByteArray} {a i : Nat} (hz : zeroAt s i = zeroAt s a) (h : s.size ≤ i) : endN s a = -1 := by
  unfold endN; rw [← hz, zeroAt_out h]
theorem nameB_long {s : ByteArray} (h : 255 < s.size) : nameB s = false := by unfold nameB; simp; omega
theorem endN_far {s : ByteArray} {i : Nat} (hz : zeroAt s i = zeroAt s 0) (h : 255 ≤ i) : endN s 0 = -1 := by
  unfold endN
  rw [← hz]
  cases hp : zeroAt s i with
  | none => rfl
  | some p =>
    have := zeroAt_ge _ i p (Nat.le_refl _) hp
    simp only
    rw [nameB_long (by rw [ByteArray.size_extract]; omega)]
    rfl
end Go.Proofs.Ytepglkgpgoifkaa.Nm
