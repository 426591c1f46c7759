/- What octet.U16 and U32 tell of a string's end, and that Put16 and Put32 go round modulo their width: for all strings and whole numbers; no condition. -/
import Derived.Test.YtccnckppkkhoeaaPOctetEndsx1
import Derived.Test.YtccnckppkkhoeaaBit
import Derived.Test.YtccnckppkkhoeaaRows
import Derived.Lib.QuietBelow
import Derived.BigQuiet
namespace Go.Proofs.Ytccnckppkkhoeaa.Ends
open Go.RowKit Go.Proofs.Ytccnckppkkhoeaa.POctetEnds Go.Proofs.YtccnckppkkhoeaaW.PrintWords Go.Proofs.YtccnckppkkhoeaaW.PrintLast Go.Proofs.Ytccnckppkkhoeaa.Bit0

theorem num2_ (s : ByteArray) (i : Int) (hs : s.size ≤ 9223372036854775807 - 16) : octet_number.f 20 s i 2 = if 0 ≤ i ∧ i + 2 ≤ s.size then some (bt s i * 256 + bt s (i + 1), i + 2, 0) else some (0, 0, 300) := by
  unfold octet_number.f
  by_cases h1 : i < 0
  · rw [if_pos h1, if_neg (by omega)]; simp [octet_number.j0]
  · rw [if_neg h1]
    by_cases h2 : i > (s.size : Int)
    · rw [if_pos h2, if_neg (by omega)]; simp [octet_number.j0]
    · rw [if_neg h2, w64 (by omega) (by omega)]
      by_cases h3 : (s.size : Int) - i < 2
      · rw [decide_eq_true h3, if_neg (by omega)]; simp [octet_number.j0]
      · rw [decide_eq_false h3, if_pos (by omega)]
        have b0 := bt_range s i
        have b1 := bt_range s (i + 1)
        simp only [octet_number.j0, octet_number.l0]
        simp only [Bool.false_eq_true, if_false, Int.add_zero]
        rw [if_pos (by decide), w64 (x := i) (by omega) (by omega), if_pos (by omega), if_pos (by omega)]
        rw [show (wrap64 (0 + 1)) = 1 by decide +kernel, if_pos (by decide), w64 (x := i + 1) (by omega) (by omega), if_pos (by omega), if_pos (by omega)]
        rw [show (wrap64 (1 + 1)) = 2 by decide +kernel, if_neg (by decide), w64 (x := i + 2) (by omega) (by omega)]
        rw [show (wrap64 (0 * 256)) = 0 * 256 by decide +kernel, w64 (x := bt s i) (by omega) (by omega), or_shl8 _ _ (by omega) (by omega) (by omega) (by omega)]
        rw [w64 (x := (0 * 256 + bt s i) * 256) (by omega) (by omega), w64 (x := bt s (i + 1)) (by omega) (by omega), or_shl8 _ _ (by omega) (by omega) (by omega) (by omega)]
        rw [Int.zero_mul, Int.zero_add]
theorem num4_ (s : ByteArray) (i : Int) (hs : s.size ≤ 9223372036854775807 - 16) : octet_number.f 20 s i 4 = if 0 ≤ i ∧ i + 4 ≤ s.size then some (((bt s i * 256 + bt s (i + 1)) * 256 + bt s (i + 2)) * 256 + bt s (i + 3), i + 4, 0) else some (0, 0, 300) := by
  unfold octet_number.f
  by_cases h1 : i < 0
  · rw [if_pos h1, if_neg (by omega)]; simp [octet_number.j0]
  · rw [if_neg h1]
    by_cases h2 : i > (s.size : Int)
    · rw [if_pos h2, if_neg (by omega)]; simp [octet_number.j0]
    · rw [if_neg h2, w64 (by omega) (by omega)]
      by_cases h3 : (s.size : Int) - i < 4
      · rw [decide_eq_true h3, if_neg (by omega)]; simp [octet_number.j0]
      · rw [decide_eq_false h3, if_pos (by omega)]
        have b0 := bt_range s i
        have b1 := bt_range s (i + 1)
        have b2 := bt_range s (i + 2)
        have b3 := bt_range s (i + 3)
        simp only [octet_number.j0, octet_number.l0]
        simp only [Bool.false_eq_true, if_false, Int.add_zero]
        rw [if_pos (by decide), w64 (x := i) (by omega) (by omega), if_pos (by omega), if_pos (by omega)]
        rw [show (wrap64 (0 + 1)) = 1 by decide +kernel, if_pos (by decide), w64 (x := i + 1) (by omega) (by omega), if_pos (by omega), if_pos (by omega)]
        rw [show (wrap64 (1 + 1)) = 2 by decide +kernel, if_pos (by decide), w64 (x := i + 2) (by omega) (by omega), if_pos (by omega), if_pos (by omega)]
        rw [show (wrap64 (2 + 1)) = 3 by decide +kernel, if_pos (by decide), w64 (x := i + 3) (by omega) (by omega), if_pos (by omega), if_pos (by omega)]
        rw [show (wrap64 (3 + 1)) = 4 by decide +kernel, if_neg (by decide), w64 (x := i + 4) (by omega) (by omega)]
        rw [show (wrap64 (0 * 256)) = 0 * 256 by decide +kernel, w64 (x := bt s i) (by omega) (by omega), or_shl8 _ _ (by omega) (by omega) (by omega) (by omega)]
        rw [w64 (x := (0 * 256 + bt s i) * 256) (by omega) (by omega), w64 (x := bt s (i + 1)) (by omega) (by omega), or_shl8 _ _ (by omega) (by omega) (by omega) (by omega)]
        rw [w64 (x := ((0 * 256 + bt s i) * 256 + bt s (i + 1)) * 256) (by omega) (by omega), w64 (x := bt s (i + 2)) (by omega) (by omega), or_shl8 _ _ (by omega) (by omega) (by omega) (by omega)]
        rw [w64 (x := (((0 * 256 + bt s i) * 256 + bt s (i + 1)) * 256 + bt s (i + 2)) * 256) (by omega) (by omega), w64 (x := bt s (i + 3)) (by omega) (by omega), or_shl8 _ _ (by omega) (by omega) (by omega) (by omega)]
        rw [Int.zero_mul, Int.zero_add]
theorem u16_ (s : ByteArray) (i : Int) (hs : s.size ≤ 9223372036854775807 - 16) : octet_U16.f 20 s i = if 0 ≤ i ∧ i + 2 ≤ s.size then some (bt s i * 256 + bt s (i + 1), i + 2, 0) else some (0, 0, 300) := by
  unfold octet_U16.f
  rw [num2_ s i hs]
  split <;> rfl
theorem u32_ (s : ByteArray) (i : Int) (hs : s.size ≤ 9223372036854775807 - 16) : octet_U32.f 20 s i = if 0 ≤ i ∧ i + 4 ≤ s.size then some (((bt s i * 256 + bt s (i + 1)) * 256 + bt s (i + 2)) * 256 + bt s (i + 3), i + 4, 0) else some (0, 0, 300) := by
  unfold octet_U32.f
  rw [num4_ s i hs]
  split <;> rfl
theorem put16_ (x : Int) : octet_Put16.f x = some (strOfNums [(x / 256) % 256, x % 256]) := rfl
theorem strOfNums_append (xs ys : List Int) : strOfNums xs ++ strOfNums ys = strOfNums (xs ++ ys) := by
  apply ByteArray.ext
  apply Array.ext'
  simp [strOfNums, ByteArray.data_append]
theorem put32_ (x : Int) : octet_Put32.f x = some (strOfNums [(x / 16777216) % 256, (x / 65536) % 256, (x / 256) % 256, x % 256]) := by
  unfold octet_Put32.f
  simp only [put16_, Option.bind_some]
  rw [if_pos (by simp [strOfNums_size]), strOfNums_append, show x / 65536 / 256 = x / 16777216 by omega]
  rfl
theorem awake_ : wimplelaw3_awake.f 20 = some true := by decide +kernel

def P16 (x : Int) : ByteArray := strOfNums [(x / 256) % 256, x % 256]
def P32 (x : Int) : ByteArray := strOfNums [(x / 16777216) % 256, (x / 65536) % 256, (x / 256) % 256, x % 256]
theorem c16 (s : ByteArray) (i : Int) (w : World) (hs : s.size ≤ 140737488351232) (h : 0 ≤ i) (h' : i + 2 ≤ s.size) :
    Calls Try.prog 16 #[.string s, .int .i64 i] w fun e w' => e = .returned (.tuple #[.int .i64 (bt s i * 256 + bt s (i + 1)), .int .i64 (i + 2), .int .i64 0]) ∧ Drawn0 w w' :=
  octet_U16.calls 20 s i _ _ _ w (by rw [u16_ s i (by omega), if_pos ⟨h, h'⟩])
theorem c16n (s : ByteArray) (i : Int) (w : World) (hs : s.size ≤ 140737488351232) (h : ¬ (0 ≤ i ∧ i + 2 ≤ s.size)) :
    Calls Try.prog 16 #[.string s, .int .i64 i] w fun e w' => e = .returned (.tuple #[.int .i64 0, .int .i64 0, .int .i64 300]) ∧ Drawn0 w w' :=
  octet_U16.calls 20 s i _ _ _ w (by rw [u16_ s i (by omega), if_neg h])
theorem c32 (s : ByteArray) (i : Int) (w : World) (hs : s.size ≤ 140737488351232) (h : 0 ≤ i) (h' : i + 4 ≤ s.size) :
    Calls Try.prog 18 #[.string s, .int .i64 i] w fun e w' => e = .returned (.tuple #[.int .i64 (((bt s i * 256 + bt s (i + 1)) * 256 + bt s (i + 2)) * 256 + bt s (i + 3)), .int .i64 (i + 4), .int .i64 0]) ∧ Drawn0 w w' :=
  octet_U32.calls 20 s i _ _ _ w (by rw [u32_ s i (by omega), if_pos ⟨h, h'⟩])
theorem c32n (s : ByteArray) (i : Int) (w : World) (hs : s.size ≤ 140737488351232) (h : ¬ (0 ≤ i ∧ i + 4 ≤ s.size)) :
    Calls Try.prog 18 #[.string s, .int .i64 i] w fun e w' => e = .returned (.tuple #[.int .i64 0, .int .i64 0, .int .i64 300]) ∧ Drawn0 w w' :=
  octet_U32.calls 20 s i _ _ _ w (by rw [u32_ s i (by omega), if_neg h])
theorem p16 (x : Int) (w : World) : Calls Try.prog 20 #[.int .i64 x] w fun e w' => e = .returned (.string (P16 x)) ∧ Below w.heap.size w w' := octet_Put16.calls x _ w (put16_ x)
theorem p32 (x : Int) (w : World) : Calls Try.prog 22 #[.int .i64 x] w fun e w' => e = .returned (.string (P32 x)) ∧ Below w.heap.size w w' := octet_Put32.calls x _ w (put32_ x)
theorem num (x : Int) (w : World) : Calls Try.prog 19 #[.int .i64 x] w fun e w' => e = .returned (.int .i64 x) ∧ Below w.heap.size w w' := (wimplelaw0_Num.calls x x w rfl).mono fun _ _ h => ⟨h.1, h.2.below⟩
theorem aw (w : World) : Calls Try.prog 23 #[] w fun e w' => e = .returned (.bool true) ∧ Below w.heap.size w w' := wimplelaw3_awake.calls 20 true w awake_
theorem mod16 (x : Int) : P16 (Go.bits .and .i64 x 65535) = P16 x := by
  unfold P16; rw [and_65535]; congr 2
  · omega
  · congr 1; omega
theorem mod16' (x : Int) : ((P16 x).toList == (P16 (Go.bits .and .i64 x 65535)).toList) = true := by rw [mod16]; exact beq_self_eq_true _
theorem low (x : Int) : ((P32 x).extract 2 4) = P16 x := by
  unfold P32 P16; rfl
theorem low' (x : Int) : (((P32 x).extract 2 4).toList == (P16 x).toList) = true := by rw [low]; exact beq_self_eq_true _
theorem sz (x : Int) : (P32 x).size = 4 := by simp [P32, strOfNums_size]

set_option maxHeartbeats 1000000 in
theorem walkA (s : ByteArray) (i x : Int) (w : World) (hs : s.size ≤ 140737488351232) (ha : i < 0) :
    Calls Try.prog 5 #[.string s, .int .i64 i, .int .i64 x] w fun e w' => e = .returned (.bool true) ∧ Below w.heap.size w w' := by
  have m1 := mod16' x
  have m2 := low' x
  have q0 : decide (0 ≤ i) = false := by simp; omega
  go_enter Try.func5, Try.ntmps5
  go_wp2_with (first | (go_at_call 23; refine (aw _).mono ?_; rintro e w1 ⟨rfl, hb1⟩) | (go_at_call 16; refine (c16n s i _ hs (by omega)).mono ?_; rintro e w2 ⟨rfl, ⟨n2, rfl⟩⟩) | (go_at_call 18; refine (c32n s i _ hs (by omega)).mono ?_; rintro e w2 ⟨rfl, ⟨n3, rfl⟩⟩))
  have e2 := sz x
  refine wp_region_quiet_below (by kernel_rfl) (by kernel_rfl) ?_
  repeat (quiet_step (first | (go_at_call 19; exact Calls.regrown_of (num _ _)) | (go_at_call 20; exact Calls.regrown_of (p16 _ _)) | (go_at_call 22; exact Calls.regrown_of (p32 _ _))))
  refine wpQuiet_nil ?_
  intro _ hw'
  obtain ⟨⟨dq, osq⟩, hw''⟩ := hw'
  subst hw''
  go_wp2
  go_ret
  exact ⟨rfl, below_then (pw_below_drewN hb1 _) hb1.size (below_regrown _ _ _)⟩
set_option maxHeartbeats 1000000 in
theorem walkB (s : ByteArray) (i x : Int) (w : World) (hs : s.size ≤ 140737488351232) (ha : (s.size : Int) < i) :
    Calls Try.prog 5 #[.string s, .int .i64 i, .int .i64 x] w fun e w' => e = .returned (.bool true) ∧ Below w.heap.size w w' := by
  have m1 := mod16' x
  have m2 := low' x
  have q0 : decide (0 ≤ i) = true := by simp; omega
  have q1 : decide (i ≤ (s.size : Int)) = false := by simp; omega
  go_enter Try.func5, Try.ntmps5
  go_wp2_with (first | (go_at_call 23; refine (aw _).mono ?_; rintro e w1 ⟨rfl, hb1⟩) | (go_at_call 16; refine (c16n s i _ hs (by omega)).mono ?_; rintro e w2 ⟨rfl, ⟨n2, rfl⟩⟩) | (go_at_call 18; refine (c32n s i _ hs (by omega)).mono ?_; rintro e w2 ⟨rfl, ⟨n3, rfl⟩⟩))
  have e2 := sz x
  refine wp_region_quiet_below (by kernel_rfl) (by kernel_rfl) ?_
  repeat (quiet_step (first | (go_at_call 19; exact Calls.regrown_of (num _ _)) | (go_at_call 20; exact Calls.regrown_of (p16 _ _)) | (go_at_call 22; exact Calls.regrown_of (p32 _ _))))
  refine wpQuiet_nil ?_
  intro _ hw'
  obtain ⟨⟨dq, osq⟩, hw''⟩ := hw'
  subst hw''
  go_wp2
  go_ret
  exact ⟨rfl, below_then (pw_below_drewN hb1 _) hb1.size (below_regrown _ _ _)⟩
set_option maxHeartbeats 1000000 in
theorem walkC (s : ByteArray) (i x : Int) (w : World) (hs : s.size ≤ 140737488351232) (h0 : 0 ≤ i) (h1 : i ≤ s.size) (h2 : (s.size : Int) < i + 2) :
    Calls Try.prog 5 #[.string s, .int .i64 i, .int .i64 x] w fun e w' => e = .returned (.bool true) ∧ Below w.heap.size w w' := by
  have m1 := mod16' x
  have m2 := low' x
  have q0 : decide (0 ≤ i) = true := by simp; omega
  have q1 : decide (i ≤ (s.size : Int)) = true := by simp; omega
  have q2 : decide (2 ≤ (s.size : Int) - i) = false := by simp; omega
  have q3 : decide (4 ≤ (s.size : Int) - i) = false := by simp; omega
  go_enter Try.func5, Try.ntmps5
  go_wp2_with (first | (go_at_call 23; refine (aw _).mono ?_; rintro e w1 ⟨rfl, hb1⟩) | (go_at_call 16; refine (c16n s i _ hs (by omega)).mono ?_; rintro e w2 ⟨rfl, ⟨n2, rfl⟩⟩) | (go_at_call 18; refine (c32n s i _ hs (by omega)).mono ?_; rintro e w2 ⟨rfl, ⟨n3, rfl⟩⟩))
  have e1 : IntKind.i64.wrap ((s.size : Int) - i) = (s.size : Int) - i := IntWalk.i64_in _ (by omega)
  have e2 := sz x
  refine wp_region_quiet_below (by kernel_rfl) (by kernel_rfl) ?_
  repeat (quiet_step (first | (go_at_call 19; exact Calls.regrown_of (num _ _)) | (go_at_call 20; exact Calls.regrown_of (p16 _ _)) | (go_at_call 22; exact Calls.regrown_of (p32 _ _))))
  refine wpQuiet_nil ?_
  intro _ hw'
  obtain ⟨⟨dq, osq⟩, hw''⟩ := hw'
  subst hw''
  go_wp2
  go_ret
  exact ⟨rfl, below_then (pw_below_drewN hb1 _) hb1.size (below_regrown _ _ _)⟩
set_option maxHeartbeats 1000000 in
theorem walkD (s : ByteArray) (i x : Int) (w : World) (hs : s.size ≤ 140737488351232) (h0 : 0 ≤ i) (h1 : i + 2 ≤ s.size) (h2 : (s.size : Int) < i + 4) :
    Calls Try.prog 5 #[.string s, .int .i64 i, .int .i64 x] w fun e w' => e = .returned (.bool true) ∧ Below w.heap.size w w' := by
  have m1 := mod16' x
  have m2 := low' x
  have q0 : decide (0 ≤ i) = true := by simp; omega
  have q1 : decide (i ≤ (s.size : Int)) = true := by simp; omega
  have q2 : decide (2 ≤ (s.size : Int) - i) = true := by simp; omega
  have q3 : decide (4 ≤ (s.size : Int) - i) = false := by simp; omega
  go_enter Try.func5, Try.ntmps5
  go_wp2_with (first | (go_at_call 23; refine (aw _).mono ?_; rintro e w1 ⟨rfl, hb1⟩) | (go_at_call 16; refine (c16 s i _ hs (by omega) (by omega)).mono ?_; rintro e w2 ⟨rfl, ⟨n2, rfl⟩⟩) | (go_at_call 18; refine (c32n s i _ hs (by omega)).mono ?_; rintro e w2 ⟨rfl, ⟨n3, rfl⟩⟩))
  have e1 : IntKind.i64.wrap ((s.size : Int) - i) = (s.size : Int) - i := IntWalk.i64_in _ (by omega)
  have e2 := sz x
  refine wp_region_quiet_below (by kernel_rfl) (by kernel_rfl) ?_
  repeat (quiet_step (first | (go_at_call 19; exact Calls.regrown_of (num _ _)) | (go_at_call 20; exact Calls.regrown_of (p16 _ _)) | (go_at_call 22; exact Calls.regrown_of (p32 _ _))))
  refine wpQuiet_nil ?_
  intro _ hw'
  obtain ⟨⟨dq, osq⟩, hw''⟩ := hw'
  subst hw''
  go_wp2
  go_ret
  exact ⟨rfl, below_then (pw_below_drewN hb1 _) hb1.size (below_regrown _ _ _)⟩
set_option maxHeartbeats 1000000 in
theorem walkE (s : ByteArray) (i x : Int) (w : World) (hs : s.size ≤ 140737488351232) (h0 : 0 ≤ i) (h1 : i + 4 ≤ s.size) :
    Calls Try.prog 5 #[.string s, .int .i64 i, .int .i64 x] w fun e w' => e = .returned (.bool true) ∧ Below w.heap.size w w' := by
  have m1 := mod16' x
  have m2 := low' x
  have q0 : decide (0 ≤ i) = true := by simp; omega
  have q1 : decide (i ≤ (s.size : Int)) = true := by simp; omega
  have q2 : decide (2 ≤ (s.size : Int) - i) = true := by simp; omega
  have q3 : decide (4 ≤ (s.size : Int) - i) = true := by simp; omega
  go_enter Try.func5, Try.ntmps5
  go_wp2_with (first | (go_at_call 23; refine (aw _).mono ?_; rintro e w1 ⟨rfl, hb1⟩) | (go_at_call 16; refine (c16 s i _ hs (by omega) (by omega)).mono ?_; rintro e w2 ⟨rfl, ⟨n2, rfl⟩⟩) | (go_at_call 18; refine (c32 s i _ hs (by omega) (by omega)).mono ?_; rintro e w2 ⟨rfl, ⟨n3, rfl⟩⟩))
  have e1 : IntKind.i64.wrap ((s.size : Int) - i) = (s.size : Int) - i := IntWalk.i64_in _ (by omega)
  have e2 := sz x
  refine wp_region_quiet_below (by kernel_rfl) (by kernel_rfl) ?_
  repeat (quiet_step (first | (go_at_call 19; exact Calls.regrown_of (num _ _)) | (go_at_call 20; exact Calls.regrown_of (p16 _ _)) | (go_at_call 22; exact Calls.regrown_of (p32 _ _))))
  refine wpQuiet_nil ?_
  intro _ hw'
  obtain ⟨⟨dq, osq⟩, hw''⟩ := hw'
  subst hw''
  go_wp2
  go_ret
  exact ⟨rfl, below_then (pw_below_drewN hb1 _) hb1.size (below_regrown _ _ _)⟩

theorem walk (s : ByteArray) (i x : Int) (w : World) (hs : s.size ≤ 140737488351232) (_ : (Lit.int .i64 i).wf = true) (_ : (Lit.int .i64 x).wf = true) :
    Calls Try.prog 5 #[.string s, .int .i64 i, .int .i64 x] w fun e w' => e = .returned (.bool true) ∧ Below w.heap.size w w' := by
  by_cases h0 : i < 0
  · exact walkA s i x w hs h0
  · by_cases h1 : (s.size : Int) < i
    · exact walkB s i x w hs h1
    · by_cases h2 : (s.size : Int) < i + 2
      · exact walkC s i x w hs (by omega) (by omega) h2
      · by_cases h4 : (s.size : Int) < i + 4
        · exact walkD s i x w hs (by omega) (by omega) h4
        · exact walkE s i x w hs (by omega) (by omega)
end Go.Proofs.Ytccnckppkkhoeaa.Ends
