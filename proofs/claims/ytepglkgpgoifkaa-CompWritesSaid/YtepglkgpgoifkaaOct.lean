/- Contracts of package octet and of the document's Num and Be: what each call answers. -/
import Derived.Test.YtepglkgpgoifkaaProg
import Derived.Test.YtepglkgpgoifkaaBase
import Derived.WalkKit
import Derived.KernelRfl
import Derived.BigQuiet
import Derived.Deep.QuietTactic
import Derived.WalkLawsBesides
namespace Go.Proofs.Ytepglkgpgoifkaa.Oct
open Go.RowKit Go.PlainAid Go.Proofs.Ytepglkgpgoifkaa.Base
set_option linter.unusedVariables false

/-- Two bytes as a number; four. -/
def be2 (s : ByteArray) (i : Nat) : Int := bt s i * 256 + bt s (i + 1)
def be4 (s : ByteArray) (i : Nat) : Int := ((bt s i * 256 + bt s (i + 1)) * 256 + bt s (i + 2)) * 256 + bt s (i + 3)
theorem be2_bd (s : ByteArray) (i : Nat) : 0 ≤ be2 s i ∧ be2 s i ≤ 65535 := by
  have h0 := bt_nonneg s i; have h1 := bt_nonneg s (i + 1); have k0 := bt_le s i; have k1 := bt_le s (i + 1)
  unfold be2; omega
theorem be4_bd (s : ByteArray) (i : Nat) : 0 ≤ be4 s i ∧ be4 s i ≤ 4294967295 := by
  have h0 := bt_nonneg s i; have h1 := bt_nonneg s (i + 1); have k0 := bt_le s i; have k1 := bt_le s (i + 1)
  have h2 := bt_nonneg s (i + 2); have h3 := bt_nonneg s (i + 3); have k2 := bt_le s (i + 2); have k3 := bt_le s (i + 3)
  unfold be4; omega
/-- A number's two lowest bytes; its four. -/
def p16 (x : Int) : ByteArray := strOfNums [(x / 256) % 256, x % 256]
def p32 (x : Int) : ByteArray := strOfNums [(x / 16777216) % 256, (x / 65536) % 256, (x / 256) % 256, x % 256]
theorem p16_size (x : Int) : (p16 x).size = 2 := by simp [p16, strOfNums_size]
theorem p32_size (x : Int) : (p32 x).size = 4 := by simp [p32, strOfNums_size]
theorem or_step (a b : Int) (ha : 0 ≤ a) (ha' : a ≤ 36028797018963967) (hb : 0 ≤ b) (hb' : b ≤ 255) : Go.bits .or .i64 (wrap64 (a * 256)) (wrap64 b) = a * 256 + b := by
  rw [w64 (by omega) (by omega), w64 (by omega) (by omega), or_shl8 _ _ ha ha' hb hb']
theorem or_first (b : Int) (hb : 0 ≤ b) (hb' : b ≤ 255) : Go.bits .or .i64 0 (wrap64 b) = b := by
  have := or_shl8 0 b (by omega) (by omega) hb hb'
  rw [w64 (by omega) (by omega)]; simpa using this
theorem or2 (s : ByteArray) (i : Nat) : Go.bits .or .i64 (wrap64 (Go.bits .or .i64 0 (wrap64 (bt s i)) * 256)) (wrap64 (bt s (i + 1))) = be2 s i := by
  have h0 := bt_nonneg s i; have h1 := bt_nonneg s (i + 1); have k0 := bt_le s i; have k1 := bt_le s (i + 1)
  rw [or_first _ h0 k0, or_step _ _ h0 (by omega) h1 k1]; rfl
theorem or4 (s : ByteArray) (i : Nat) : Go.bits .or .i64 (wrap64 (Go.bits .or .i64 (wrap64 (Go.bits .or .i64 (wrap64 (Go.bits .or .i64 0 (wrap64 (bt s i)) * 256)) (wrap64 (bt s (i + 1))) * 256)) (wrap64 (bt s (i + 2))) * 256)) (wrap64 (bt s (i + 3))) = be4 s i := by
  have h0 := bt_nonneg s i; have h1 := bt_nonneg s (i + 1); have k0 := bt_le s i; have k1 := bt_le s (i + 1)
  have h2 := bt_nonneg s (i + 2); have h3 := bt_nonneg s (i + 3); have k2 := bt_le s (i + 2); have k3 := bt_le s (i + 3)
  rw [or2, show be2 s i = bt s i * 256 + bt s (i + 1) from rfl, or_step _ _ (by omega) (by omega) h2 k2, or_step _ _ (by omega) (by omega) h3 k3]; rfl

set_option maxHeartbeats 400000 in
theorem num2 (s : ByteArray) (i : Nat) (w : World) (hs : s.size ≤ 9223372036854775000) (h : i + 2 ≤ s.size) :
    Calls Try.prog 69 #[.string s, .int .i64 i, .int .i64 2] w fun e w' => e = .returned (.tuple #[.int .i64 (be2 s i), .int .i64 (i + 2), .int .i64 0]) ∧ w = w' := by
  have q0 : decide ((i : Int) < 0) = false := by simp
  have hb := get_bt s
  go_enter Try.func69, Try.ntmps69
  go_wp2
  refine wp_loop_rounds 3 ?_
  repeat (rw [rounds_succ]; go_wp2)
  go_ret3
  exact ⟨by rw [or2]; rfl, rfl⟩
set_option maxHeartbeats 400000 in
theorem num2a (s : ByteArray) (i : Int) (w : World) (hs : s.size ≤ 9223372036854775000) (h : i < 0) :
    Calls Try.prog 69 #[.string s, .int .i64 i, .int .i64 2] w fun e w' => e = .returned (.tuple #[.int .i64 0, .int .i64 0, .int .i64 300]) ∧ w = w' := by
  have q0 : decide (i < 0) = true := by simp; omega
  go_enter Try.func69, Try.ntmps69
  go_wp2
  go_ret3
  exact ⟨rfl, rfl⟩
set_option maxHeartbeats 400000 in
theorem num2b (s : ByteArray) (i : Int) (w : World) (hs : s.size ≤ 9223372036854775000) (h : (s.size : Int) < i) :
    Calls Try.prog 69 #[.string s, .int .i64 i, .int .i64 2] w fun e w' => e = .returned (.tuple #[.int .i64 0, .int .i64 0, .int .i64 300]) ∧ w = w' := by
  have q0 : decide (i < 0) = false := by simp; omega
  have q1 : decide ((s.size : Int) < i) = true := by simp; omega
  go_enter Try.func69, Try.ntmps69
  go_wp2
  go_ret3
  exact ⟨rfl, rfl⟩
set_option maxHeartbeats 400000 in
theorem num2c (s : ByteArray) (i : Int) (w : World) (hs : s.size ≤ 9223372036854775000) (h0 : 0 ≤ i) (h1 : i ≤ s.size) (h : (s.size : Int) < i + 2) :
    Calls Try.prog 69 #[.string s, .int .i64 i, .int .i64 2] w fun e w' => e = .returned (.tuple #[.int .i64 0, .int .i64 0, .int .i64 300]) ∧ w = w' := by
  have q0 : decide (i < 0) = false := by simp; omega
  have q1 : decide ((s.size : Int) < i) = false := by simp; omega
  have q2 : decide ((s.size : Int) - i < 2) = true := by simp; omega
  have q3 : 0 ≤ (s.size : Int) - i := by omega
  go_enter Try.func69, Try.ntmps69
  go_wp2
  go_ret3
  exact ⟨rfl, rfl⟩
theorem num2n (s : ByteArray) (i : Int) (w : World) (hs : s.size ≤ 9223372036854775000) (h : ¬ (0 ≤ i ∧ i + 2 ≤ s.size)) :
    Calls Try.prog 69 #[.string s, .int .i64 i, .int .i64 2] w fun e w' => e = .returned (.tuple #[.int .i64 0, .int .i64 0, .int .i64 300]) ∧ w = w' := by
  by_cases h0 : i < 0
  · exact num2a s i w hs h0
  · by_cases h1 : (s.size : Int) < i
    · exact num2b s i w hs h1
    · exact num2c s i w hs (by omega) (by omega) (by omega)
set_option maxHeartbeats 400000 in
theorem num4 (s : ByteArray) (i : Nat) (w : World) (hs : s.size ≤ 9223372036854775000) (h : i + 4 ≤ s.size) :
    Calls Try.prog 69 #[.string s, .int .i64 i, .int .i64 4] w fun e w' => e = .returned (.tuple #[.int .i64 (be4 s i), .int .i64 (i + 4), .int .i64 0]) ∧ w = w' := by
  have q0 : decide ((i : Int) < 0) = false := by simp
  have hb := get_bt s
  go_enter Try.func69, Try.ntmps69
  go_wp2
  refine wp_loop_rounds 5 ?_
  repeat (rw [rounds_succ]; go_wp2)
  go_ret3
  exact ⟨by rw [or4]; rfl, rfl⟩
set_option maxHeartbeats 400000 in
theorem num4a (s : ByteArray) (i : Int) (w : World) (hs : s.size ≤ 9223372036854775000) (h : i < 0) :
    Calls Try.prog 69 #[.string s, .int .i64 i, .int .i64 4] w fun e w' => e = .returned (.tuple #[.int .i64 0, .int .i64 0, .int .i64 300]) ∧ w = w' := by
  have q0 : decide (i < 0) = true := by simp; omega
  go_enter Try.func69, Try.ntmps69
  go_wp2
  go_ret3
  exact ⟨rfl, rfl⟩
set_option maxHeartbeats 400000 in
theorem num4b (s : ByteArray) (i : Int) (w : World) (hs : s.size ≤ 9223372036854775000) (h : (s.size : Int) < i) :
    Calls Try.prog 69 #[.string s, .int .i64 i, .int .i64 4] w fun e w' => e = .returned (.tuple #[.int .i64 0, .int .i64 0, .int .i64 300]) ∧ w = w' := by
  have q0 : decide (i < 0) = false := by simp; omega
  have q1 : decide ((s.size : Int) < i) = true := by simp; omega
  go_enter Try.func69, Try.ntmps69
  go_wp2
  go_ret3
  exact ⟨rfl, rfl⟩
set_option maxHeartbeats 400000 in
theorem num4c (s : ByteArray) (i : Int) (w : World) (hs : s.size ≤ 9223372036854775000) (h0 : 0 ≤ i) (h1 : i ≤ s.size) (h : (s.size : Int) < i + 4) :
    Calls Try.prog 69 #[.string s, .int .i64 i, .int .i64 4] w fun e w' => e = .returned (.tuple #[.int .i64 0, .int .i64 0, .int .i64 300]) ∧ w = w' := by
  have q0 : decide (i < 0) = false := by simp; omega
  have q1 : decide ((s.size : Int) < i) = false := by simp; omega
  have q2 : decide ((s.size : Int) - i < 4) = true := by simp; omega
  have q3 : 0 ≤ (s.size : Int) - i := by omega
  go_enter Try.func69, Try.ntmps69
  go_wp2
  go_ret3
  exact ⟨rfl, rfl⟩
theorem num4n (s : ByteArray) (i : Int) (w : World) (hs : s.size ≤ 9223372036854775000) (h : ¬ (0 ≤ i ∧ i + 4 ≤ s.size)) :
    Calls Try.prog 69 #[.string s, .int .i64 i, .int .i64 4] w fun e w' => e = .returned (.tuple #[.int .i64 0, .int .i64 0, .int .i64 300]) ∧ w = w' := by
  by_cases h0 : i < 0
  · exact num4a s i w hs h0
  · by_cases h1 : (s.size : Int) < i
    · exact num4b s i w hs h1
    · exact num4c s i w hs (by omega) (by omega) (by omega)
set_option maxHeartbeats 400000 in
theorem rnum2 (s : ByteArray) (i : Nat) (w : World) (hs : s.size ≤ 9223372036854775000) (h : i + 2 ≤ s.size) :
    Calls Try.prog 64 #[.string s, .int .i64 i, .int .i64 2] w fun e w' => e = .returned (.tuple #[.int .i64 (be2 s i), .int .i64 (i + 2), .int .i64 0]) ∧ w = w' := by
  have q0 : decide ((i : Int) < 0) = false := by simp
  have hb := get_bt s
  go_enter Try.func64, Try.ntmps64
  go_wp2
  refine wp_loop_rounds 3 ?_
  repeat (rw [rounds_succ]; go_wp2)
  go_ret3
  exact ⟨by rw [or2]; rfl, rfl⟩
set_option maxHeartbeats 400000 in
theorem rnum2a (s : ByteArray) (i : Int) (w : World) (hs : s.size ≤ 9223372036854775000) (h : i < 0) :
    Calls Try.prog 64 #[.string s, .int .i64 i, .int .i64 2] w fun e w' => e = .returned (.tuple #[.int .i64 0, .int .i64 0, .int .i64 300]) ∧ w = w' := by
  have q0 : decide (i < 0) = true := by simp; omega
  go_enter Try.func64, Try.ntmps64
  go_wp2
  go_ret3
  exact ⟨rfl, rfl⟩
set_option maxHeartbeats 400000 in
theorem rnum2b (s : ByteArray) (i : Int) (w : World) (hs : s.size ≤ 9223372036854775000) (h : (s.size : Int) < i) :
    Calls Try.prog 64 #[.string s, .int .i64 i, .int .i64 2] w fun e w' => e = .returned (.tuple #[.int .i64 0, .int .i64 0, .int .i64 300]) ∧ w = w' := by
  have q0 : decide (i < 0) = false := by simp; omega
  have q1 : decide ((s.size : Int) < i) = true := by simp; omega
  go_enter Try.func64, Try.ntmps64
  go_wp2
  go_ret3
  exact ⟨rfl, rfl⟩
set_option maxHeartbeats 400000 in
theorem rnum2c (s : ByteArray) (i : Int) (w : World) (hs : s.size ≤ 9223372036854775000) (h0 : 0 ≤ i) (h1 : i ≤ s.size) (h : (s.size : Int) < i + 2) :
    Calls Try.prog 64 #[.string s, .int .i64 i, .int .i64 2] w fun e w' => e = .returned (.tuple #[.int .i64 0, .int .i64 0, .int .i64 300]) ∧ w = w' := by
  have q0 : decide (i < 0) = false := by simp; omega
  have q1 : decide ((s.size : Int) < i) = false := by simp; omega
  have q2 : decide ((s.size : Int) - i < 2) = true := by simp; omega
  have q3 : 0 ≤ (s.size : Int) - i := by omega
  go_enter Try.func64, Try.ntmps64
  go_wp2
  go_ret3
  exact ⟨rfl, rfl⟩
theorem rnum2n (s : ByteArray) (i : Int) (w : World) (hs : s.size ≤ 9223372036854775000) (h : ¬ (0 ≤ i ∧ i + 2 ≤ s.size)) :
    Calls Try.prog 64 #[.string s, .int .i64 i, .int .i64 2] w fun e w' => e = .returned (.tuple #[.int .i64 0, .int .i64 0, .int .i64 300]) ∧ w = w' := by
  by_cases h0 : i < 0
  · exact rnum2a s i w hs h0
  · by_cases h1 : (s.size : Int) < i
    · exact rnum2b s i w hs h1
    · exact rnum2c s i w hs (by omega) (by omega) (by omega)
set_option maxHeartbeats 400000 in
theorem rnum4 (s : ByteArray) (i : Nat) (w : World) (hs : s.size ≤ 9223372036854775000) (h : i + 4 ≤ s.size) :
    Calls Try.prog 64 #[.string s, .int .i64 i, .int .i64 4] w fun e w' => e = .returned (.tuple #[.int .i64 (be4 s i), .int .i64 (i + 4), .int .i64 0]) ∧ w = w' := by
  have q0 : decide ((i : Int) < 0) = false := by simp
  have hb := get_bt s
  go_enter Try.func64, Try.ntmps64
  go_wp2
  refine wp_loop_rounds 5 ?_
  repeat (rw [rounds_succ]; go_wp2)
  go_ret3
  exact ⟨by rw [or4]; rfl, rfl⟩
set_option maxHeartbeats 400000 in
theorem rnum4a (s : ByteArray) (i : Int) (w : World) (hs : s.size ≤ 9223372036854775000) (h : i < 0) :
    Calls Try.prog 64 #[.string s, .int .i64 i, .int .i64 4] w fun e w' => e = .returned (.tuple #[.int .i64 0, .int .i64 0, .int .i64 300]) ∧ w = w' := by
  have q0 : decide (i < 0) = true := by simp; omega
  go_enter Try.func64, Try.ntmps64
  go_wp2
  go_ret3
  exact ⟨rfl, rfl⟩
set_option maxHeartbeats 400000 in
theorem rnum4b (s : ByteArray) (i : Int) (w : World) (hs : s.size ≤ 9223372036854775000) (h : (s.size : Int) < i) :
    Calls Try.prog 64 #[.string s, .int .i64 i, .int .i64 4] w fun e w' => e = .returned (.tuple #[.int .i64 0, .int .i64 0, .int .i64 300]) ∧ w = w' := by
  have q0 : decide (i < 0) = false := by simp; omega
  have q1 : decide ((s.size : Int) < i) = true := by simp; omega
  go_enter Try.func64, Try.ntmps64
  go_wp2
  go_ret3
  exact ⟨rfl, rfl⟩
set_option maxHeartbeats 400000 in
theorem rnum4c (s : ByteArray) (i : Int) (w : World) (hs : s.size ≤ 9223372036854775000) (h0 : 0 ≤ i) (h1 : i ≤ s.size) (h : (s.size : Int) < i + 4) :
    Calls Try.prog 64 #[.string s, .int .i64 i, .int .i64 4] w fun e w' => e = .returned (.tuple #[.int .i64 0, .int .i64 0, .int .i64 300]) ∧ w = w' := by
  have q0 : decide (i < 0) = false := by simp; omega
  have q1 : decide ((s.size : Int) < i) = false := by simp; omega
  have q2 : decide ((s.size : Int) - i < 4) = true := by simp; omega
  have q3 : 0 ≤ (s.size : Int) - i := by omega
  go_enter Try.func64, Try.ntmps64
  go_wp2
  go_ret3
  exact ⟨rfl, rfl⟩
theorem rnum4n (s : ByteArray) (i : Int) (w : World) (hs : s.size ≤ 9223372036854775000) (h : ¬ (0 ≤ i ∧ i + 4 ≤ s.size)) :
    Calls Try.prog 64 #[.string s, .int .i64 i, .int .i64 4] w fun e w' => e = .returned (.tuple #[.int .i64 0, .int .i64 0, .int .i64 300]) ∧ w = w' := by
  by_cases h0 : i < 0
  · exact rnum4a s i w hs h0
  · by_cases h1 : (s.size : Int) < i
    · exact rnum4b s i w hs h1
    · exact rnum4c s i w hs (by omega) (by omega) (by omega)

/-! ### U16, U32, Put16, Put32, Be -/
set_option maxHeartbeats 400000 in
theorem u16 (s : ByteArray) (i : Nat) (w : World) (hs : s.size ≤ 9223372036854775000) (h : i + 2 ≤ s.size) :
    Calls Try.prog 60 #[.string s, .int .i64 i] w fun e w' => e = .returned (.tuple #[.int .i64 (be2 s i), .int .i64 (i + 2), .int .i64 0]) ∧ w = w' := by
  go_enter Try.func60, Try.ntmps60
  go_wp2_with (go_at_call 69; refine (num2 s i _ hs h).mono ?_; rintro e w' ⟨rfl, rfl⟩)
  go_ret3
  exact ⟨rfl, rfl⟩
set_option maxHeartbeats 400000 in
theorem u16n (s : ByteArray) (i : Int) (w : World) (hs : s.size ≤ 9223372036854775000) (h : ¬ (0 ≤ i ∧ i + 2 ≤ s.size)) :
    Calls Try.prog 60 #[.string s, .int .i64 i] w fun e w' => e = .returned (.tuple #[.int .i64 0, .int .i64 0, .int .i64 300]) ∧ w = w' := by
  go_enter Try.func60, Try.ntmps60
  go_wp2_with (go_at_call 69; refine (num2n s i _ hs h).mono ?_; rintro e w' ⟨rfl, rfl⟩)
  go_ret3
  exact ⟨rfl, rfl⟩
set_option maxHeartbeats 400000 in
theorem u32 (s : ByteArray) (i : Nat) (w : World) (hs : s.size ≤ 9223372036854775000) (h : i + 4 ≤ s.size) :
    Calls Try.prog 63 #[.string s, .int .i64 i] w fun e w' => e = .returned (.tuple #[.int .i64 (be4 s i), .int .i64 (i + 4), .int .i64 0]) ∧ w = w' := by
  go_enter Try.func63, Try.ntmps63
  go_wp2_with (go_at_call 69; refine (num4 s i _ hs h).mono ?_; rintro e w' ⟨rfl, rfl⟩)
  go_ret3
  exact ⟨rfl, rfl⟩
set_option maxHeartbeats 400000 in
theorem u32n (s : ByteArray) (i : Int) (w : World) (hs : s.size ≤ 9223372036854775000) (h : ¬ (0 ≤ i ∧ i + 4 ≤ s.size)) :
    Calls Try.prog 63 #[.string s, .int .i64 i] w fun e w' => e = .returned (.tuple #[.int .i64 0, .int .i64 0, .int .i64 300]) ∧ w = w' := by
  go_enter Try.func63, Try.ntmps63
  go_wp2_with (go_at_call 69; refine (num4n s i _ hs h).mono ?_; rintro e w' ⟨rfl, rfl⟩)
  go_ret3
  exact ⟨rfl, rfl⟩
set_option maxHeartbeats 400000 in
theorem put16 (x : Int) (w : World) : Calls Try.prog 31 #[.int .i64 x] w fun e w' => e = .returned (.string (p16 x)) ∧ Below w.heap.size w w' := by
  have hcv := run_convert_bytes_arg (P := Try.prog) (w.alloc (.cells #[.int .u8 (x / 256 % 256), .int .u8 (x % 256)] 5)) 42 5 Try.underlying42 Try.underlying5 w.heap.size 0 2 2 [x / 256 % 256, x % 256] rfl
    (fun i hi => by obtain rfl | rfl : i = 0 ∨ i = 1 := by omega
                    · go_simp
                    · go_simp) 9 Try.underlying9
  go_enter Try.func31, Try.ntmps31
  go_wp2
  go_ret
  exact ⟨rfl, below_alloc (Below.refl _ _) _⟩
theorem p16_append (x : Int) : p16 (x / 65536) ++ p16 x = p32 x := by
  unfold p16 p32
  rw [strOfNums_append, show x / 65536 / 256 = x / 16777216 by omega]
  rfl
/-- The document's Be, of two bytes and of four. -/
theorem be2_list (x : Int) : strOfNums [Go.bits .and .u64 (IntKind.u64.wrap x / 256) 255 % 256, Go.bits .and .u64 (IntKind.u64.wrap x) 255 % 256] = p16 x := by
  rw [u64_wrap, u64_and255 _ (by omega) (by omega), u64_and255 _ (by omega) (by omega)]
  unfold p16
  rw [show x % 18446744073709551616 / 256 % 256 % 256 = x / 256 % 256 by omega, show x % 18446744073709551616 % 256 % 256 = x % 256 by omega]
theorem be4_list (x : Int) : strOfNums [Go.bits .and .u64 (IntKind.u64.wrap x / 256 / 256 / 256) 255 % 256, Go.bits .and .u64 (IntKind.u64.wrap x / 256 / 256) 255 % 256, Go.bits .and .u64 (IntKind.u64.wrap x / 256) 255 % 256, Go.bits .and .u64 (IntKind.u64.wrap x) 255 % 256] = p32 x := by
  rw [u64_wrap, u64_and255 _ (by omega) (by omega), u64_and255 _ (by omega) (by omega), u64_and255 _ (by omega) (by omega), u64_and255 _ (by omega) (by omega)]
  unfold p32
  rw [show x % 18446744073709551616 / 256 / 256 / 256 % 256 % 256 = x / 16777216 % 256 by omega, show x % 18446744073709551616 / 256 / 256 % 256 % 256 = x / 65536 % 256 by omega, show x % 18446744073709551616 / 256 % 256 % 256 = x / 256 % 256 by omega, show x % 18446744073709551616 % 256 % 256 = x % 256 by omega]
set_option maxHeartbeats 1000000 in
theorem rbe2 (x : Int) (w : World) : Calls Try.prog 33 #[.int .i64 x, .int .i64 2] w fun e w' => e = .returned (.string (p16 x)) ∧ Below w.heap.size w w' := by
  have hmk : ∀ w, (Instr.makeSlice 42 (.int .i64 2) (.int .i64 2)).run Try.prog w = .ok (.slice (some ⟨w.heap.size, 0, none⟩) 2 2) (w.alloc (.cells #[.int .u8 0, .int .u8 0] 5)) := fun _ => by kernel_rfl
  have hcv := run_convert_bytes_arg (P := Try.prog) (w.alloc (.cells #[.int .u8 (Go.bits .and .u64 (IntKind.u64.wrap x / 256) 255 % 256), .int .u8 (Go.bits .and .u64 (IntKind.u64.wrap x) 255 % 256)] 5)) 42 5 Try.underlying42 Try.underlying5 w.heap.size 0 2 2 [Go.bits .and .u64 (IntKind.u64.wrap x / 256) 255 % 256, Go.bits .and .u64 (IntKind.u64.wrap x) 255 % 256] rfl
    (fun i hi => by obtain rfl | rfl : i = 0 ∨ i = 1 := by omega
                    · go_simp
                    · go_simp) 9 Try.underlying9
  go_enter Try.func33, Try.ntmps33
  go_wp2
  refine wp_loop_rounds 3 ?_
  repeat (rw [rounds_succ]; go_wp2)
  go_ret
  exact ⟨by rw [be2_list]; rfl, below_alloc (Below.refl _ _) _⟩
set_option maxHeartbeats 1000000 in
theorem rbe4 (x : Int) (w : World) : Calls Try.prog 33 #[.int .i64 x, .int .i64 4] w fun e w' => e = .returned (.string (p32 x)) ∧ Below w.heap.size w w' := by
  have hmk : ∀ w, (Instr.makeSlice 42 (.int .i64 4) (.int .i64 4)).run Try.prog w = .ok (.slice (some ⟨w.heap.size, 0, none⟩) 4 4) (w.alloc (.cells #[.int .u8 0, .int .u8 0, .int .u8 0, .int .u8 0] 5)) := fun _ => by kernel_rfl
  have hcv := run_convert_bytes_arg (P := Try.prog) (w.alloc (.cells #[.int .u8 (Go.bits .and .u64 (IntKind.u64.wrap x / 256 / 256 / 256) 255 % 256), .int .u8 (Go.bits .and .u64 (IntKind.u64.wrap x / 256 / 256) 255 % 256), .int .u8 (Go.bits .and .u64 (IntKind.u64.wrap x / 256) 255 % 256), .int .u8 (Go.bits .and .u64 (IntKind.u64.wrap x) 255 % 256)] 5)) 42 5 Try.underlying42 Try.underlying5 w.heap.size 0 4 4 [Go.bits .and .u64 (IntKind.u64.wrap x / 256 / 256 / 256) 255 % 256, Go.bits .and .u64 (IntKind.u64.wrap x / 256 / 256) 255 % 256, Go.bits .and .u64 (IntKind.u64.wrap x / 256) 255 % 256, Go.bits .and .u64 (IntKind.u64.wrap x) 255 % 256] rfl
    (fun i hi => by obtain rfl | rfl | rfl | rfl : i = 0 ∨ i = 1 ∨ i = 2 ∨ i = 3 := by omega
                    · go_simp
                    · go_simp
                    · go_simp
                    · go_simp) 9 Try.underlying9
  go_enter Try.func33, Try.ntmps33
  go_wp2
  refine wp_loop_rounds 5 ?_
  repeat (rw [rounds_succ]; go_wp2)
  go_ret
  exact ⟨by rw [be4_list]; rfl, below_alloc (Below.refl _ _) _⟩
/-! ### The place as a whole number -/
theorem num2z (s : ByteArray) (i : Int) (w : World) (hs : s.size ≤ 9223372036854775000) (h0 : 0 ≤ i) (h : i + 2 ≤ s.size) :
    Calls Try.prog 69 #[.string s, .int .i64 i, .int .i64 2] w fun e w' => e = .returned (.tuple #[.int .i64 (be2 s i.toNat), .int .i64 (i + 2), .int .i64 0]) ∧ w = w' := by
  obtain ⟨k, rfl⟩ := Int.eq_ofNat_of_zero_le h0
  exact num2 s k w hs (by omega)
theorem num4z (s : ByteArray) (i : Int) (w : World) (hs : s.size ≤ 9223372036854775000) (h0 : 0 ≤ i) (h : i + 4 ≤ s.size) :
    Calls Try.prog 69 #[.string s, .int .i64 i, .int .i64 4] w fun e w' => e = .returned (.tuple #[.int .i64 (be4 s i.toNat), .int .i64 (i + 4), .int .i64 0]) ∧ w = w' := by
  obtain ⟨k, rfl⟩ := Int.eq_ofNat_of_zero_le h0
  exact num4 s k w hs (by omega)
theorem rnum2z (s : ByteArray) (i : Int) (w : World) (hs : s.size ≤ 9223372036854775000) (h0 : 0 ≤ i) (h : i + 2 ≤ s.size) :
    Calls Try.prog 64 #[.string s, .int .i64 i, .int .i64 2] w fun e w' => e = .returned (.tuple #[.int .i64 (be2 s i.toNat), .int .i64 (i + 2), .int .i64 0]) ∧ w = w' := by
  obtain ⟨k, rfl⟩ := Int.eq_ofNat_of_zero_le h0
  exact rnum2 s k w hs (by omega)
theorem rnum4z (s : ByteArray) (i : Int) (w : World) (hs : s.size ≤ 9223372036854775000) (h0 : 0 ≤ i) (h : i + 4 ≤ s.size) :
    Calls Try.prog 64 #[.string s, .int .i64 i, .int .i64 4] w fun e w' => e = .returned (.tuple #[.int .i64 (be4 s i.toNat), .int .i64 (i + 4), .int .i64 0]) ∧ w = w' := by
  obtain ⟨k, rfl⟩ := Int.eq_ofNat_of_zero_le h0
  exact rnum4 s k w hs (by omega)
theorem u16z (s : ByteArray) (i : Int) (w : World) (hs : s.size ≤ 9223372036854775000) (h0 : 0 ≤ i) (h : i + 2 ≤ s.size) :
    Calls Try.prog 60 #[.string s, .int .i64 i] w fun e w' => e = .returned (.tuple #[.int .i64 (be2 s i.toNat), .int .i64 (i + 2), .int .i64 0]) ∧ w = w' := by
  obtain ⟨k, rfl⟩ := Int.eq_ofNat_of_zero_le h0
  exact u16 s k w hs (by omega)
theorem u32z (s : ByteArray) (i : Int) (w : World) (hs : s.size ≤ 9223372036854775000) (h0 : 0 ≤ i) (h : i + 4 ≤ s.size) :
    Calls Try.prog 63 #[.string s, .int .i64 i] w fun e w' => e = .returned (.tuple #[.int .i64 (be4 s i.toNat), .int .i64 (i + 4), .int .i64 0]) ∧ w = w' := by
  obtain ⟨k, rfl⟩ := Int.eq_ofNat_of_zero_le h0
  exact u32 s k w hs (by omega)
end Go.Proofs.Ytepglkgpgoifkaa.Oct
