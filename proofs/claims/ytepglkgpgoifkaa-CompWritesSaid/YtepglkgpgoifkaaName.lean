/- Contracts of name.Places and name.May: what each call answers, for every string. -/
import Derived.Test.YtepglkgpgoifkaaOct
import Derived.Test.YtepglkgpgoifkaaSlice
import Derived.Lib.Hide
import Derived.Deep.LoopGhost
namespace Go.Proofs.Ytepglkgpgoifkaa.Nm
open Go.RowKit Go.PlainAid Go.Proofs.Ytepglkgpgoifkaa.Base Go.Proofs.Ytepglkgpgoifkaa.Oct Go.Proofs.Ytepglkgpgoifkaa.Sl
set_option linter.unusedVariables false

/-- From a place on: do labels follow up to the last byte, which ends the name? -/
def nameAt (s : ByteArray) (i : Nat) : Bool :=
  if i < s.size then
    if bt s i = 0 then decide (i + 1 = s.size) else if 63 < bt s i then false else nameAt s (i + 1 + (bt s i).toNat)
  else false
termination_by s.size - i
/-- Where the labels begin, from a place on, and the last byte's place. -/
def placesAt (s : ByteArray) (i : Nat) : List Nat :=
  if i < s.size then
    i :: (if bt s i = 0 then [] else if 63 < bt s i then [] else placesAt s (i + 1 + (bt s i).toNat))
  else []
termination_by s.size - i
/-- Is it a name? -/
def nameB (s : ByteArray) : Bool := decide (s.size ≤ 255) && nameAt s 0
def places (s : ByteArray) : List Nat := placesAt s 0
theorem nameAt_end {s : ByteArray} {i : Nat} (h : i < s.size) (h0 : bt s i = 0) : nameAt s i = decide (i + 1 = s.size) := by
  rw [nameAt, if_pos h, if_pos h0]
theorem nameAt_bad {s : ByteArray} {i : Nat} (h : i < s.size) (h0 : 63 < bt s i) : nameAt s i = false := by
  rw [nameAt, if_pos h, if_neg (by omega), if_pos h0]
theorem nameAt_next {s : ByteArray} {i : Nat} (h : i < s.size) (h0 : bt s i ≠ 0) (h1 : bt s i ≤ 63) : nameAt s i = nameAt s (i + 1 + (bt s i).toNat) := by
  rw [nameAt, if_pos h, if_neg h0, if_neg (by omega)]
theorem nameAt_out {s : ByteArray} {i : Nat} (h : s.size ≤ i) : nameAt s i = false := by
  rw [nameAt, if_neg (by omega)]
theorem placesAt_end {s : ByteArray} {i : Nat} (h : i < s.size) (h0 : bt s i = 0) : placesAt s i = [i] := by
  rw [placesAt, if_pos h, if_pos h0]
theorem placesAt_next {s : ByteArray} {i : Nat} (h : i < s.size) (h0 : bt s i ≠ 0) (h1 : bt s i ≤ 63) : placesAt s i = i :: placesAt s (i + 1 + (bt s i).toNat) := by
  rw [placesAt, if_pos h, if_neg h0, if_neg (by omega)]
def pcells (xs : List Nat) : List Value := xs.map fun (k : Nat) => .int .i64 (k : Int)

theorem info_int : (Try.prog.info? 3).map (fun i => (i.zero, i.size, i.bytes)) = some (some (.int .i64 0), 1, 8) := by kernel_rfl

/-- Places: whether it is a name; the places, if it is. -/
def PlacesPost (s : ByteArray) (w : World) (e : Ending) (w' : World) : Prop :=
  ∃ v, e = .returned (.tuple #[v, .bool (nameB s)]) ∧ Below w.heap.size w w' ∧ (nameB s = true → w'.ownsRow w.heap.size 3 1 v (places s).length (pcells (places s)))
theorem placesLong (s : ByteArray) (w : World) (h : 255 < s.size) : Calls Try.prog 30 #[.string s] w (PlacesPost s w) := by
  have q : decide ((255 : Int) < s.size) = true := by simp; omega
  have hn : nameB s = false := by unfold nameB; simp; omega
  have HN := Lib.hid hn
  clear hn
  go_enter Try.func30, Try.ntmps30
  go_wp2
  go_step3
  go_wp2
  rw [Exit.noGoto_ret]
  go_ret2
  exact ⟨_, by rw [HN.out]; rfl, Below.refl _ _, fun h => by rw [HN.out] at h; cases h⟩
/-- What holds at each round's head. -/
structure Rnd (s : ByteArray) (w : World) (i : Nat) (v : Value) (wr : World) : Prop where
  nm : nameAt s i = nameAt s 0
  own : ∃ xs : List Nat, xs ++ placesAt s i = placesAt s 0 ∧ xs.length ≤ i ∧ wr.ownsRow w.heap.size 3 1 v xs.length (pcells xs)
  bel : Below w.heap.size w wr
theorem pcells_snoc (xs : List Nat) (i : Nat) : pcells xs ++ [.int .i64 (i : Int)] = pcells (xs ++ [i]) := by simp [pcells]
theorem Rnd.next {s : ByteArray} {w : World} {i : Nat} {xs : List Nat} {v1 : Value} {w1 : World} (hnm : nameAt s i = nameAt s 0) (hlt : i < s.size) (h0 : bt s i ≠ 0) (h1 : bt s i ≤ 63) (hx : xs ++ placesAt s i = placesAt s 0) (hl : xs.length ≤ i)
    (hown : w1.ownsRow w.heap.size 3 1 v1 (xs.length + 1) (pcells xs ++ [.int .i64 (i : Int)])) (hb : Below w.heap.size w w1) : Rnd s w (i + 1 + (bt s i).toNat) v1 w1 where
  nm := by rw [← nameAt_next hlt h0 h1]; exact hnm
  own := ⟨xs ++ [i], by rw [← hx, placesAt_next hlt h0 h1]; simp, by simp; omega, by rw [← pcells_snoc]; simpa using hown⟩
  bel := hb
theorem placesEnd {s : ByteArray} {w : World} {i : Nat} {xs : List Nat} {v1 : Value} {w1 : World} {b : Bool} (hs : s.size ≤ 255) (hnm : nameAt s i = nameAt s 0) (hlt : i < s.size) (h0 : bt s i = 0) (hx : xs ++ placesAt s i = placesAt s 0)
    (hown : w1.ownsRow w.heap.size 3 1 v1 (xs.length + 1) (pcells xs ++ [.int .i64 (i : Int)])) (hb : Below w.heap.size w w1) (hbb : b = decide (i + 1 = s.size)) : PlacesPost s w (.returned (.tuple #[v1, .bool b])) w1 := by
  have e1 : nameB s = b := by unfold nameB; rw [← hnm, nameAt_end hlt h0, hbb]; simp [hs]
  refine ⟨v1, by rw [e1], hb, fun _ => ?_⟩
  unfold places
  rw [← hx, placesAt_end hlt h0, ← pcells_snoc]
  simpa using hown
theorem placesBad {s : ByteArray} {w : World} {i : Nat} {v1 : Value} {w1 : World} (hnm : nameAt s i = nameAt s 0) (hf : nameAt s i = false) (hb : Below w.heap.size w w1) : PlacesPost s w (.returned (.tuple #[v1, .bool false])) w1 := by
  have e1 : nameB s = false := by unfold nameB; rw [← hnm, hf]; simp
  exact ⟨v1, by rw [e1], hb, fun h => by rw [e1] at h; cases h⟩
set_option maxHeartbeats 2000000 in
theorem placesShort (s : ByteArray) (w : World) (h : s.size ≤ 255) : Calls Try.prog 30 #[.string s] w (PlacesPost s w) := by
  have q : decide ((255 : Int) < s.size) = false := by simp; omega
  go_enter Try.func30, Try.ntmps30
  go_wp2
  go_step3
  go_wp2
  go_step3
  go_wp2
  go_loopg [4, 5, 6] (s.size + 65) (fun k v4 v5 v6 wr => ∃ i : Nat, v5 = .int .i64 i ∧ i + k ≤ s.size + 65 ∧ s.size + 65 ≤ i + k ∧ i ≤ s.size + 64 ∧ Rnd s w i v4 wr)
  case atStart => exact ⟨0, rfl, by omega, by omega, by omega, rfl, ⟨[], rfl, Nat.le_refl _, World.ownsRow_nil _ _ _ _⟩, Below.refl _ _⟩
  case round =>
    obtain ⟨i, rfl, hk1, hk2, hk3, hR⟩ := hrel
    have hnm := Lib.hid hR.nm
    have hbel := hR.bel
    by_cases hlt : i < s.size
    · have q0 : decide ((i : Int) < s.size) = true := by simp; omega
      have qs : decide ((0 : Int) < s.size) = true := by simp; omega
      have hb := get_bt s
      have wb : wrap64 (bt s i) = bt s i := w64 (by have := bt_nonneg s i; omega) (by have := bt_le s i; omega)
      obtain ⟨xs, hxs, hxl, hown⟩ := hR.own
      have HX := Lib.hid hxs
      clear hxs
      have hsz := hbel.size
      by_cases hz : bt s i = 0
      · have q1 : (bt s i == 0) = true := by simp [hz]
        have HZ := Lib.hid hz
        clear hz
        go_wp2_with (at_builtin; refine append_row (w0 := w) w.heap.size rfl _ _ 36 3 (.int .i64 0) 1 8 rfl Try.underlying36 info_int rfl (by decide) hown #[.int .i64 i] rfl rfl rfl ?h1 hbel hsz ?hn ?hl ?_)
        case h1 => rfl
        case hn => omega
        case hl => omega
        intro v1 w1 hown1 hbel1
        go_wp2
        rw [Exit.noGoto_ret]
        go_ret2
        exact placesEnd h hnm.out hlt HZ.out HX.out hown1 hbel1 (by rw [Bool.eq_iff_iff]; simp; omega)
      · have q1 : (bt s i == 0) = false := by simp [hz]
        have HZ := Lib.hid hz
        clear hz
        by_cases h63 : bt s i ≤ 63
        · have q2 : decide (63 < bt s i) = false := by simp; omega
          have H63 := Lib.hid h63
          clear h63
          have ws : wrap64 ((i : Int) + wrap64 (1 + bt s i)) = ((i + 1 + (bt s i).toNat : Nat) : Int) := by
            have := bt_nonneg s i; have := bt_le s i
            rw [w64 (x := 1 + bt s i) (by omega) (by omega), w64 (by omega) (by omega)]; omega
          go_wp2_with (at_builtin; refine append_row (w0 := w) w.heap.size rfl _ _ 36 3 (.int .i64 0) 1 8 rfl Try.underlying36 info_int rfl (by decide) hown #[.int .i64 i] rfl rfl rfl ?h1 hbel hsz ?hn ?hl ?_)
          case h1 => rfl
          case hn => omega
          case hl => omega
          intro v1 w1 hown1 hbel1
          go_wp2
          go_roundg (gk - 1 - (bt s i).toNat)
          case measure => omega
          case rel =>
            have := H63.out; have := bt_nonneg s i
            exact ⟨i + 1 + (bt s i).toNat, congrArg _ ws, by omega, by omega, by omega, Rnd.next hnm.out hlt HZ.out H63.out HX.out hxl hown1 hbel1⟩
        · have q2 : decide (63 < bt s i) = true := by simp; omega
          have H63 := Lib.hid h63
          clear h63
          go_wp2_with (at_builtin; refine append_row (w0 := w) w.heap.size rfl _ _ 36 3 (.int .i64 0) 1 8 rfl Try.underlying36 info_int rfl (by decide) hown #[.int .i64 i] rfl rfl rfl ?h1 hbel hsz ?hn ?hl ?_)
          case h1 => rfl
          case hn => omega
          case hl => omega
          intro v1 w1 hown1 hbel1
          go_wp2
          rw [Exit.noGoto_ret]
          go_ret2
          exact placesBad hnm.out (nameAt_bad hlt (by have := H63.out; omega)) hbel1
    · have q0 : decide ((i : Int) < s.size) = false := by simp; omega
      by_cases hs0 : s.size = 0
      · have qs : decide (0 < s.size) = false := decide_eq_false (by omega)
        have HS := Lib.hid hs0
        clear hs0
        go_wp2
        rw [Exit.noGoto_ret]
        go_ret2
        exact placesBad hnm.out (nameAt_out (by omega)) hbel
      · have qs : decide (0 < s.size) = true := decide_eq_true (by omega)
        have qe : ((i : Int) == (s.size : Int) - 1) = false := by simp; omega
        have HS := Lib.hid hs0
        clear hs0
        go_wp2
        rw [Exit.noGoto_ret]
        go_ret2
        exact placesBad hnm.out (nameAt_out (by omega)) hbel
end Go.Proofs.Ytepglkgpgoifkaa.Nm
