/- CompFull's walk: a writer takes no more than it may; what does not fit turns nothing. -/
import Derived.Test.YtepglkgpgoifkaaWriterAwake
import Derived.Test.YtepglkgpgoifkaaName2
import Derived.Test.YtepglkgpgoifkaaZeros
import Derived.Test.YtepglkgpgoifkaaPure
import Derived.Test.YtepglkgpgoifkaaPClx2
namespace Go.Proofs.Ytepglkgpgoifkaa.CompFull
open Go.RowKit Go.PlainAid Go.Maps Go.Proofs.Ytepglkgpgoifkaa.Base Go.Proofs.Ytepglkgpgoifkaa.Oct Go.Proofs.Ytepglkgpgoifkaa.Nm Go.Proofs.Ytepglkgpgoifkaa.Wr
open Go.Proofs.YtepglkgpgoifkaaW.PrintWords (bytesOf bytesOf_length)
set_option linter.unusedVariables false
theorem out_new (s : ByteArray) : outN (fun _ => none) s = s := by
  have : ∀ (ps : List Nat) (i : Nat), findP (fun _ => none) s ps i = none := by
    intro ps
    induction ps with
    | nil => intro i; rfl
    | cons p ps ih => intro i; exact ih (i + 1)
  unfold outN
  rw [this]
theorem awakec (w : World) : Calls Try.prog 20 #[] w fun e w' => e = .returned (.bool true) ∧ Below w.heap.size w w' := PCl.wimplelaw5_awake.calls true w rfl
set_option maxHeartbeats 8000000 in
set_option maxRecDepth 100000 in
theorem walk (a0 : Int) (s : ByteArray) (w : World) (_ : (Lit.int .i64 a0).wf = true) (hs : s.size ≤ 140737488351232) : Calls Try.prog 7 #[.int .i64 a0, .string s] w fun e w' => e = .returned (.bool true) ∧ Below w.heap.size w w' := by
  have hk : Go.bits .and .i64 a0 511 = a0 % 512 := Pu.and_511 a0
  obtain ⟨k, hk2, hk3⟩ : ∃ k : Nat, Go.bits .and .i64 a0 511 = (k : Int) ∧ k < 512 := ⟨(a0 % 512).toNat, by rw [hk]; omega, by omega⟩
  clear hk
  go_enter Try.func7, Try.ntmps7
  go_wp2_with fail
  refine (awakec w).mono ?_
  rintro e w1 ⟨rfl, B1⟩
  have s1 := B1.size
  go_wp2_with fail
  refine (rmay s w1).mono ?_
  rintro e w2 ⟨rfl, B2⟩
  replace B2 := B1.trans (B2.mono s1)
  clear B1 s1
  cases hn : nameB s with
  | false =>
    go_wp2_with fail
    go_ret
    exact ⟨rfl, B2⟩
  | true =>
  have h255 : s.size ≤ 255 := (places_pos hn).1
  have s2 := B2.size
  go_wp2_with fail
  refine (newc w2).mono ?_
  rintro e w3 ⟨g, gm, rfl, B3, H3⟩
  replace B3 := B2.trans (B3.mono s2)
  clear B2
  have hm1 := make_zeros (4096 - k) (by omega) w3
  have hc1 := conv_zeros (4096 - k) w3
  rw [show ((4096 - k : Nat) : Int) = 4096 - (k : Int) by omega] at hm1
  go_wp2_with fail
  have Ba : Below w3.heap.size w3 (w3.alloc (.cells (madeCells #[.int .u8 0] (4096 - k)) 5)) := (Below.refl _ _).alloc (Nat.le_refl _) _
  have H3a := H3.below Ba
  have s3 := B3.size
  replace B3 := B3.trans (Ba.mono s3)
  clear hm1 hc1
  have zl : ([] ++ bytesOf (zeros (4096 - k)) : List Int).length = 4096 - k := by rw [List.nil_append, bytesOf_length, zeros_size]
  refine (rawOk H3a (zeros (4096 - k)) (by rw [zeros_size]; omega) (by rw [zeros_size]; simp)).mono ?_
  rintro e w4 ⟨rfl, v4, H4, B4, -⟩
  replace B4 := B3.trans (B4.mono s2)
  clear B3 H3 H3a Ba s3
  generalize hX : ([] ++ bytesOf (zeros (4096 - k)) : List Int) = X at *
  have s4 := B4.size
  have hm1 := make_zeros (k + 1) (by omega) w4
  have hc1 := conv_zeros (k + 1) w4
  rw [show ((k + 1 : Nat) : Int) = (k : Int) + 1 by omega] at hm1
  go_wp2_with fail
  have Ba : Below w4.heap.size w4 (w4.alloc (.cells (madeCells #[.int .u8 0] (k + 1)) 5)) := (Below.refl _ _).alloc (Nat.le_refl _) _
  have H4a := H4.below Ba
  replace B4 := B4.trans (Ba.mono s4)
  clear hm1 hc1
  refine (rawLong H4a (zeros (k + 1)) (by rw [zeros_size]; omega) (by rw [zeros_size]; omega)).mono ?_
  rintro e w5 ⟨rfl, rfl⟩
  clear H4 Ba s4
  generalize w4.alloc (.cells (madeCells #[.int .u8 0] (k + 1)) 5) = w5 at *
  go_wp2_with fail
  refine (nameYes H4a s hn).mono ?_
  rintro e w6 h
  rw [out_new] at h
  by_cases hf : s.size ≤ k
  · rw [if_neg (by omega)] at h
    obtain ⟨rfl, v6, H6, B6, -⟩ := h
    replace B6 := B4.trans (B6.mono s2)
    clear B4 H4a
    have q1 : decide ((s.size : Int) ≤ (k : Int)) = true := by simp; omega
    have hzz : (strOfNums (X ++ bytesOf s)).size = 4096 - k + s.size := by rw [strOfNums_size, List.length_append, bytesOf_length, zl]
    have hzi : ((4096 - k + s.size : Nat) : Int) = 4096 - (k : Int) + (s.size : Int) := by omega
    have q2 : (((strOfNums (X ++ bytesOf s)).size : Int) == 4096 - (k : Int) + (s.size : Int)) = true := by simp; omega
    have HF := Lib.hid hf
    clear hf
    go_wp2_with (first | (go_at_call 14; refine (numc _ _).mono ?_; rintro e w' ⟨rfl, rfl⟩) | (go_at_call 18; refine (allc H6).mono ?_; rintro e w' ⟨rfl, rfl⟩))
    go_ret
    exact ⟨rfl, B6⟩
  · rw [if_pos (by omega)] at h
    obtain ⟨rfl, H6, B6, -⟩ := h
    replace B6 := B4.trans (B6.mono s2)
    clear B4 H4a
    have q1 : decide ((s.size : Int) ≤ (k : Int)) = false := by simp; omega
    have hzz : (strOfNums X).size = 4096 - k := by rw [strOfNums_size, zl]
    have q2 : (((strOfNums X).size : Int) == 4096 - (k : Int)) = true := by simp; omega
    have HF := Lib.hid hf
    clear hf
    go_wp2_with (first | (go_at_call 14; refine (numc _ _).mono ?_; rintro e w' ⟨rfl, rfl⟩) | (go_at_call 18; refine (allc H6).mono ?_; rintro e w' ⟨rfl, rfl⟩))
    go_ret
    have q3 : (((4096 - k : Nat) : Int) == 4096 - (k : Int)) = true := by simp; omega
    exact ⟨congrArg (fun b => Ending.returned (.bool b)) q3, B6⟩
end Go.Proofs.Ytepglkgpgoifkaa.CompFull
