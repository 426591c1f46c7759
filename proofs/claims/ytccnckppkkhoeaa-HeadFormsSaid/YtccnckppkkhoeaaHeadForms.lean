/- wimplelaw6.HeadForms answers true, for all whole numbers. -/
import Derived.Test.YtccnckppkkhoeaaHeadAwake
import Derived.Test.YtccnckppkkhoeaaHeadPure
import Derived.Test.YtccnckppkkhoeaaZeros
import Derived.Lib.Hide
namespace Go.Proofs.Ytccnckppkkhoeaa.Hd
open Go.RowKit Go.PlainAid Go.Proofs.Ytccnckppkkhoeaa.Base Go.Proofs.Ytccnckppkkhoeaa.Oct
set_option linter.unusedVariables false

theorem putN' (h : Head) (a b c d : Int) (w : World) (hm : mayB h a b c d = false) :
    Calls Try.prog 24 #[.agg #[.int .i64 h.id, .bool h.qr, .int .i64 h.op, .bool h.aa, .bool h.tc, .bool h.rd, .bool h.ra, .int .i64 h.z, .int .i64 h.rc], .agg #[.int .i64 a, .int .i64 b, .int .i64 c, .int .i64 d]] w fun e w' => e = .returned (.tuple #[.string ⟨#[]⟩, .int .i64 600]) ∧ Below w.heap.size w w' := put_no h a b c d w hm
theorem zeros_E (n : Nat) : ((gotE (zeros n) == 0) == decide (12 ≤ (n : Int))) = true := by
  unfold gotE
  rw [zeros_size]
  by_cases h : 12 ≤ n
  · rw [if_pos h, decide_eq_true (by omega)]; rfl
  · rw [if_neg h, decide_eq_false (by omega)]; rfl
set_option maxHeartbeats 4000000 in
theorem forms_0 (u x : Int) (w : World) (hr : IntKind.u64.wrap u % 8 = 0) (D : Int) (hD : Go.bits .and .i64 x 63 = D) (d0 : 0 ≤ D) (d1 : D ≤ 63) (n : Nat) (hn : Go.bits .and .i64 x 15 = (n : Int)) (n1 : n ≤ 15) :
    Calls Try.prog 10 #[.int .i64 u, .int .i64 x] w fun e w' => e = .returned (.bool true) ∧ Below w.heap.size w w' := by
  have u0 : 0 ≤ IntKind.u64.wrap u := by rw [u64_wrap]; omega
  have m1 := zeros_E n
  have zs := zeros_size n
  go_enter Try.func10, Try.ntmps10
  go_wp2_with fail
  refine (awake6 _).mono ?_
  rintro e w1 ⟨rfl, hb1⟩
  go_wp2_with fail
  refine (putN' ⟨_, _, _, _, _, _, _, _, _⟩ _ _ _ _ _ ?_).mono ?_
  · exact decide_eq_false (by simp only [Head.ok, sh]; (try unfold wrap64); omega)
  rintro e w2 ⟨rfl, hb2⟩
  have hmk := make_zeros n (by omega) w2
  have hcv := conv_zeros n w2
  go_wp2_with fail
  refine (got (zeros n) _ (by rw [zs]; omega)).mono ?_
  rintro e w3 ⟨rfl, hb3⟩
  go_wp2_with (go_at_call 19; refine (numc _ _).mono ?_; rintro e w' ⟨rfl, rfl⟩)
  go_ret
  exact ⟨rfl, below_alloc (below_alloc (below_next (below_alloc (below_next (below_alloc (below_alloc (below_next (Below.refl _ _) hb1) _) _) hb2) _) hb3) _) _⟩
set_option maxHeartbeats 4000000 in
theorem forms_1 (u x : Int) (w : World) (hr : IntKind.u64.wrap u % 8 = 1) (D : Int) (hD : Go.bits .and .i64 x 63 = D) (d0 : 0 ≤ D) (d1 : D ≤ 63) (n : Nat) (hn : Go.bits .and .i64 x 15 = (n : Int)) (n1 : n ≤ 15) :
    Calls Try.prog 10 #[.int .i64 u, .int .i64 x] w fun e w' => e = .returned (.bool true) ∧ Below w.heap.size w w' := by
  have u0 : 0 ≤ IntKind.u64.wrap u := by rw [u64_wrap]; omega
  have m1 := zeros_E n
  have zs := zeros_size n
  go_enter Try.func10, Try.ntmps10
  go_wp2_with fail
  refine (awake6 _).mono ?_
  rintro e w1 ⟨rfl, hb1⟩
  go_wp2_with fail
  refine (putN' ⟨_, _, _, _, _, _, _, _, _⟩ _ _ _ _ _ ?_).mono ?_
  · exact decide_eq_false (by simp only [Head.ok, sh]; (try unfold wrap64); omega)
  rintro e w2 ⟨rfl, hb2⟩
  have hmk := make_zeros n (by omega) w2
  have hcv := conv_zeros n w2
  go_wp2_with fail
  refine (got (zeros n) _ (by rw [zs]; omega)).mono ?_
  rintro e w3 ⟨rfl, hb3⟩
  go_wp2_with (go_at_call 19; refine (numc _ _).mono ?_; rintro e w' ⟨rfl, rfl⟩)
  go_ret
  exact ⟨rfl, below_alloc (below_alloc (below_next (below_alloc (below_next (below_alloc (below_alloc (below_next (Below.refl _ _) hb1) _) _) hb2) _) hb3) _) _⟩
set_option maxHeartbeats 4000000 in
theorem forms_2 (u x : Int) (w : World) (hr : IntKind.u64.wrap u % 8 = 2) (D : Int) (hD : Go.bits .and .i64 x 63 = D) (d0 : 0 ≤ D) (d1 : D ≤ 63) (n : Nat) (hn : Go.bits .and .i64 x 15 = (n : Int)) (n1 : n ≤ 15) :
    Calls Try.prog 10 #[.int .i64 u, .int .i64 x] w fun e w' => e = .returned (.bool true) ∧ Below w.heap.size w w' := by
  have u0 : 0 ≤ IntKind.u64.wrap u := by rw [u64_wrap]; omega
  have m1 := zeros_E n
  have zs := zeros_size n
  go_enter Try.func10, Try.ntmps10
  go_wp2_with fail
  refine (awake6 _).mono ?_
  rintro e w1 ⟨rfl, hb1⟩
  go_wp2_with fail
  refine (putN' ⟨_, _, _, _, _, _, _, _, _⟩ _ _ _ _ _ ?_).mono ?_
  · exact decide_eq_false (by simp only [Head.ok, sh]; (try unfold wrap64); omega)
  rintro e w2 ⟨rfl, hb2⟩
  have hmk := make_zeros n (by omega) w2
  have hcv := conv_zeros n w2
  go_wp2_with fail
  refine (got (zeros n) _ (by rw [zs]; omega)).mono ?_
  rintro e w3 ⟨rfl, hb3⟩
  go_wp2_with (go_at_call 19; refine (numc _ _).mono ?_; rintro e w' ⟨rfl, rfl⟩)
  go_ret
  exact ⟨rfl, below_alloc (below_alloc (below_next (below_alloc (below_next (below_alloc (below_alloc (below_next (Below.refl _ _) hb1) _) _) hb2) _) hb3) _) _⟩
set_option maxHeartbeats 4000000 in
theorem forms_3 (u x : Int) (w : World) (hr : IntKind.u64.wrap u % 8 = 3) (D : Int) (hD : Go.bits .and .i64 x 63 = D) (d0 : 0 ≤ D) (d1 : D ≤ 63) (n : Nat) (hn : Go.bits .and .i64 x 15 = (n : Int)) (n1 : n ≤ 15) :
    Calls Try.prog 10 #[.int .i64 u, .int .i64 x] w fun e w' => e = .returned (.bool true) ∧ Below w.heap.size w w' := by
  have u0 : 0 ≤ IntKind.u64.wrap u := by rw [u64_wrap]; omega
  have m1 := zeros_E n
  have zs := zeros_size n
  go_enter Try.func10, Try.ntmps10
  go_wp2_with fail
  refine (awake6 _).mono ?_
  rintro e w1 ⟨rfl, hb1⟩
  go_wp2_with fail
  refine (putN' ⟨_, _, _, _, _, _, _, _, _⟩ _ _ _ _ _ ?_).mono ?_
  · exact decide_eq_false (by simp only [Head.ok, sh]; (try unfold wrap64); omega)
  rintro e w2 ⟨rfl, hb2⟩
  have hmk := make_zeros n (by omega) w2
  have hcv := conv_zeros n w2
  go_wp2_with fail
  refine (got (zeros n) _ (by rw [zs]; omega)).mono ?_
  rintro e w3 ⟨rfl, hb3⟩
  go_wp2_with (go_at_call 19; refine (numc _ _).mono ?_; rintro e w' ⟨rfl, rfl⟩)
  go_ret
  exact ⟨rfl, below_alloc (below_alloc (below_next (below_alloc (below_next (below_alloc (below_alloc (below_next (Below.refl _ _) hb1) _) _) hb2) _) hb3) _) _⟩
set_option maxHeartbeats 4000000 in
theorem forms_4 (u x : Int) (w : World) (hr : IntKind.u64.wrap u % 8 = 4) (D : Int) (hD : Go.bits .and .i64 x 63 = D) (d0 : 0 ≤ D) (d1 : D ≤ 63) (n : Nat) (hn : Go.bits .and .i64 x 15 = (n : Int)) (n1 : n ≤ 15) :
    Calls Try.prog 10 #[.int .i64 u, .int .i64 x] w fun e w' => e = .returned (.bool true) ∧ Below w.heap.size w w' := by
  have u0 : 0 ≤ IntKind.u64.wrap u := by rw [u64_wrap]; omega
  have m1 := zeros_E n
  have zs := zeros_size n
  go_enter Try.func10, Try.ntmps10
  go_wp2_with fail
  refine (awake6 _).mono ?_
  rintro e w1 ⟨rfl, hb1⟩
  go_wp2_with fail
  refine (putN' ⟨_, _, _, _, _, _, _, _, _⟩ _ _ _ _ _ ?_).mono ?_
  · exact decide_eq_false (by simp only [Head.ok, sh]; (try unfold wrap64); omega)
  rintro e w2 ⟨rfl, hb2⟩
  have hmk := make_zeros n (by omega) w2
  have hcv := conv_zeros n w2
  go_wp2_with fail
  refine (got (zeros n) _ (by rw [zs]; omega)).mono ?_
  rintro e w3 ⟨rfl, hb3⟩
  go_wp2_with (go_at_call 19; refine (numc _ _).mono ?_; rintro e w' ⟨rfl, rfl⟩)
  go_ret
  exact ⟨rfl, below_alloc (below_alloc (below_next (below_alloc (below_next (below_alloc (below_alloc (below_next (Below.refl _ _) hb1) _) _) hb2) _) hb3) _) _⟩
set_option maxHeartbeats 4000000 in
theorem forms_5 (u x : Int) (w : World) (hr : IntKind.u64.wrap u % 8 = 5) (D : Int) (hD : Go.bits .and .i64 x 63 = D) (d0 : 0 ≤ D) (d1 : D ≤ 63) (n : Nat) (hn : Go.bits .and .i64 x 15 = (n : Int)) (n1 : n ≤ 15) :
    Calls Try.prog 10 #[.int .i64 u, .int .i64 x] w fun e w' => e = .returned (.bool true) ∧ Below w.heap.size w w' := by
  have u0 : 0 ≤ IntKind.u64.wrap u := by rw [u64_wrap]; omega
  have m1 := zeros_E n
  have zs := zeros_size n
  go_enter Try.func10, Try.ntmps10
  go_wp2_with fail
  refine (awake6 _).mono ?_
  rintro e w1 ⟨rfl, hb1⟩
  go_wp2_with fail
  refine (putN' ⟨_, _, _, _, _, _, _, _, _⟩ _ _ _ _ _ ?_).mono ?_
  · exact decide_eq_false (by simp only [Head.ok, sh]; (try unfold wrap64); omega)
  rintro e w2 ⟨rfl, hb2⟩
  have hmk := make_zeros n (by omega) w2
  have hcv := conv_zeros n w2
  go_wp2_with fail
  refine (got (zeros n) _ (by rw [zs]; omega)).mono ?_
  rintro e w3 ⟨rfl, hb3⟩
  go_wp2_with (go_at_call 19; refine (numc _ _).mono ?_; rintro e w' ⟨rfl, rfl⟩)
  go_ret
  exact ⟨rfl, below_alloc (below_alloc (below_next (below_alloc (below_next (below_alloc (below_alloc (below_next (Below.refl _ _) hb1) _) _) hb2) _) hb3) _) _⟩
set_option maxHeartbeats 4000000 in
theorem forms_6_0 (u x : Int) (w : World) (hr : IntKind.u64.wrap u % 8 = 6) (D : Int) (hD : Go.bits .and .i64 x 63 = D) (d0 : 0 ≤ D) (d1 : D ≤ 63) (n : Nat) (hn : Go.bits .and .i64 x 15 = (n : Int)) (n1 : n ≤ 15) (hJ : Go.bits .and .i64 x 3 = 0) :
    Calls Try.prog 10 #[.int .i64 u, .int .i64 x] w fun e w' => e = .returned (.bool true) ∧ Below w.heap.size w w' := by
  have u0 : 0 ≤ IntKind.u64.wrap u := by rw [u64_wrap]; omega
  have m1 := zeros_E n
  have zs := zeros_size n
  go_enter Try.func10, Try.ntmps10
  go_wp2_with fail
  refine (awake6 _).mono ?_
  rintro e w1 ⟨rfl, hb1⟩
  go_wp2_with fail
  refine (putN' ⟨_, _, _, _, _, _, _, _, _⟩ _ _ _ _ _ ?_).mono ?_
  · exact decide_eq_false (by simp only [Head.ok, sh]; (try unfold wrap64); omega)
  rintro e w2 ⟨rfl, hb2⟩
  have hmk := make_zeros n (by omega) w2
  have hcv := conv_zeros n w2
  go_wp2_with fail
  refine (got (zeros n) _ (by rw [zs]; omega)).mono ?_
  rintro e w3 ⟨rfl, hb3⟩
  go_wp2_with (go_at_call 19; refine (numc _ _).mono ?_; rintro e w' ⟨rfl, rfl⟩)
  go_ret
  exact ⟨rfl, below_alloc (below_alloc (below_next (below_alloc (below_next (below_alloc (below_alloc (below_next (Below.refl _ _) hb1) _) _) hb2) _) hb3) _) _⟩
set_option maxHeartbeats 4000000 in
theorem forms_6_1 (u x : Int) (w : World) (hr : IntKind.u64.wrap u % 8 = 6) (D : Int) (hD : Go.bits .and .i64 x 63 = D) (d0 : 0 ≤ D) (d1 : D ≤ 63) (n : Nat) (hn : Go.bits .and .i64 x 15 = (n : Int)) (n1 : n ≤ 15) (hJ : Go.bits .and .i64 x 3 = 1) :
    Calls Try.prog 10 #[.int .i64 u, .int .i64 x] w fun e w' => e = .returned (.bool true) ∧ Below w.heap.size w w' := by
  have u0 : 0 ≤ IntKind.u64.wrap u := by rw [u64_wrap]; omega
  have m1 := zeros_E n
  have zs := zeros_size n
  go_enter Try.func10, Try.ntmps10
  go_wp2_with fail
  refine (awake6 _).mono ?_
  rintro e w1 ⟨rfl, hb1⟩
  go_wp2_with fail
  refine (putN' ⟨_, _, _, _, _, _, _, _, _⟩ _ _ _ _ _ ?_).mono ?_
  · exact decide_eq_false (by simp only [Head.ok, sh]; (try unfold wrap64); omega)
  rintro e w2 ⟨rfl, hb2⟩
  have hmk := make_zeros n (by omega) w2
  have hcv := conv_zeros n w2
  go_wp2_with fail
  refine (got (zeros n) _ (by rw [zs]; omega)).mono ?_
  rintro e w3 ⟨rfl, hb3⟩
  go_wp2_with (go_at_call 19; refine (numc _ _).mono ?_; rintro e w' ⟨rfl, rfl⟩)
  go_ret
  exact ⟨rfl, below_alloc (below_alloc (below_next (below_alloc (below_next (below_alloc (below_alloc (below_next (Below.refl _ _) hb1) _) _) hb2) _) hb3) _) _⟩
set_option maxHeartbeats 4000000 in
theorem forms_6_2 (u x : Int) (w : World) (hr : IntKind.u64.wrap u % 8 = 6) (D : Int) (hD : Go.bits .and .i64 x 63 = D) (d0 : 0 ≤ D) (d1 : D ≤ 63) (n : Nat) (hn : Go.bits .and .i64 x 15 = (n : Int)) (n1 : n ≤ 15) (hJ : Go.bits .and .i64 x 3 = 2) :
    Calls Try.prog 10 #[.int .i64 u, .int .i64 x] w fun e w' => e = .returned (.bool true) ∧ Below w.heap.size w w' := by
  have u0 : 0 ≤ IntKind.u64.wrap u := by rw [u64_wrap]; omega
  have m1 := zeros_E n
  have zs := zeros_size n
  go_enter Try.func10, Try.ntmps10
  go_wp2_with fail
  refine (awake6 _).mono ?_
  rintro e w1 ⟨rfl, hb1⟩
  go_wp2_with fail
  refine (putN' ⟨_, _, _, _, _, _, _, _, _⟩ _ _ _ _ _ ?_).mono ?_
  · exact decide_eq_false (by simp only [Head.ok, sh]; (try unfold wrap64); omega)
  rintro e w2 ⟨rfl, hb2⟩
  have hmk := make_zeros n (by omega) w2
  have hcv := conv_zeros n w2
  go_wp2_with fail
  refine (got (zeros n) _ (by rw [zs]; omega)).mono ?_
  rintro e w3 ⟨rfl, hb3⟩
  go_wp2_with (go_at_call 19; refine (numc _ _).mono ?_; rintro e w' ⟨rfl, rfl⟩)
  go_ret
  exact ⟨rfl, below_alloc (below_alloc (below_next (below_alloc (below_next (below_alloc (below_alloc (below_next (Below.refl _ _) hb1) _) _) hb2) _) hb3) _) _⟩
set_option maxHeartbeats 4000000 in
theorem forms_6_3 (u x : Int) (w : World) (hr : IntKind.u64.wrap u % 8 = 6) (D : Int) (hD : Go.bits .and .i64 x 63 = D) (d0 : 0 ≤ D) (d1 : D ≤ 63) (n : Nat) (hn : Go.bits .and .i64 x 15 = (n : Int)) (n1 : n ≤ 15) (hJ : Go.bits .and .i64 x 3 = 3) :
    Calls Try.prog 10 #[.int .i64 u, .int .i64 x] w fun e w' => e = .returned (.bool true) ∧ Below w.heap.size w w' := by
  have u0 : 0 ≤ IntKind.u64.wrap u := by rw [u64_wrap]; omega
  have m1 := zeros_E n
  have zs := zeros_size n
  go_enter Try.func10, Try.ntmps10
  go_wp2_with fail
  refine (awake6 _).mono ?_
  rintro e w1 ⟨rfl, hb1⟩
  go_wp2_with fail
  refine (putN' ⟨_, _, _, _, _, _, _, _, _⟩ _ _ _ _ _ ?_).mono ?_
  · exact decide_eq_false (by simp only [Head.ok, sh]; (try unfold wrap64); omega)
  rintro e w2 ⟨rfl, hb2⟩
  have hmk := make_zeros n (by omega) w2
  have hcv := conv_zeros n w2
  go_wp2_with fail
  refine (got (zeros n) _ (by rw [zs]; omega)).mono ?_
  rintro e w3 ⟨rfl, hb3⟩
  go_wp2_with (go_at_call 19; refine (numc _ _).mono ?_; rintro e w' ⟨rfl, rfl⟩)
  go_ret
  exact ⟨rfl, below_alloc (below_alloc (below_next (below_alloc (below_next (below_alloc (below_alloc (below_next (Below.refl _ _) hb1) _) _) hb2) _) hb3) _) _⟩
set_option maxHeartbeats 4000000 in
theorem forms_7_0 (u x : Int) (w : World) (hr : IntKind.u64.wrap u % 8 = 7) (D : Int) (hD : Go.bits .and .i64 x 63 = D) (d0 : 0 ≤ D) (d1 : D ≤ 63) (n : Nat) (hn : Go.bits .and .i64 x 15 = (n : Int)) (n1 : n ≤ 15) (hJ : Go.bits .and .i64 x 3 = 0) :
    Calls Try.prog 10 #[.int .i64 u, .int .i64 x] w fun e w' => e = .returned (.bool true) ∧ Below w.heap.size w w' := by
  have u0 : 0 ≤ IntKind.u64.wrap u := by rw [u64_wrap]; omega
  have m1 := zeros_E n
  have zs := zeros_size n
  go_enter Try.func10, Try.ntmps10
  go_wp2_with fail
  refine (awake6 _).mono ?_
  rintro e w1 ⟨rfl, hb1⟩
  go_wp2_with fail
  refine (putN' ⟨_, _, _, _, _, _, _, _, _⟩ _ _ _ _ _ ?_).mono ?_
  · exact decide_eq_false (by simp only [Head.ok, sh]; (try unfold wrap64); omega)
  rintro e w2 ⟨rfl, hb2⟩
  have hmk := make_zeros n (by omega) w2
  have hcv := conv_zeros n w2
  go_wp2_with fail
  refine (got (zeros n) _ (by rw [zs]; omega)).mono ?_
  rintro e w3 ⟨rfl, hb3⟩
  go_wp2_with (go_at_call 19; refine (numc _ _).mono ?_; rintro e w' ⟨rfl, rfl⟩)
  go_ret
  exact ⟨rfl, below_alloc (below_alloc (below_next (below_alloc (below_next (below_alloc (below_alloc (below_next (Below.refl _ _) hb1) _) _) hb2) _) hb3) _) _⟩
set_option maxHeartbeats 4000000 in
theorem forms_7_1 (u x : Int) (w : World) (hr : IntKind.u64.wrap u % 8 = 7) (D : Int) (hD : Go.bits .and .i64 x 63 = D) (d0 : 0 ≤ D) (d1 : D ≤ 63) (n : Nat) (hn : Go.bits .and .i64 x 15 = (n : Int)) (n1 : n ≤ 15) (hJ : Go.bits .and .i64 x 3 = 1) :
    Calls Try.prog 10 #[.int .i64 u, .int .i64 x] w fun e w' => e = .returned (.bool true) ∧ Below w.heap.size w w' := by
  have u0 : 0 ≤ IntKind.u64.wrap u := by rw [u64_wrap]; omega
  have m1 := zeros_E n
  have zs := zeros_size n
  go_enter Try.func10, Try.ntmps10
  go_wp2_with fail
  refine (awake6 _).mono ?_
  rintro e w1 ⟨rfl, hb1⟩
  go_wp2_with fail
  refine (putN' ⟨_, _, _, _, _, _, _, _, _⟩ _ _ _ _ _ ?_).mono ?_
  · exact decide_eq_false (by simp only [Head.ok, sh]; (try unfold wrap64); omega)
  rintro e w2 ⟨rfl, hb2⟩
  have hmk := make_zeros n (by omega) w2
  have hcv := conv_zeros n w2
  go_wp2_with fail
  refine (got (zeros n) _ (by rw [zs]; omega)).mono ?_
  rintro e w3 ⟨rfl, hb3⟩
  go_wp2_with (go_at_call 19; refine (numc _ _).mono ?_; rintro e w' ⟨rfl, rfl⟩)
  go_ret
  exact ⟨rfl, below_alloc (below_alloc (below_next (below_alloc (below_next (below_alloc (below_alloc (below_next (Below.refl _ _) hb1) _) _) hb2) _) hb3) _) _⟩
set_option maxHeartbeats 4000000 in
theorem forms_7_2 (u x : Int) (w : World) (hr : IntKind.u64.wrap u % 8 = 7) (D : Int) (hD : Go.bits .and .i64 x 63 = D) (d0 : 0 ≤ D) (d1 : D ≤ 63) (n : Nat) (hn : Go.bits .and .i64 x 15 = (n : Int)) (n1 : n ≤ 15) (hJ : Go.bits .and .i64 x 3 = 2) :
    Calls Try.prog 10 #[.int .i64 u, .int .i64 x] w fun e w' => e = .returned (.bool true) ∧ Below w.heap.size w w' := by
  have u0 : 0 ≤ IntKind.u64.wrap u := by rw [u64_wrap]; omega
  have m1 := zeros_E n
  have zs := zeros_size n
  go_enter Try.func10, Try.ntmps10
  go_wp2_with fail
  refine (awake6 _).mono ?_
  rintro e w1 ⟨rfl, hb1⟩
  go_wp2_with fail
  refine (putN' ⟨_, _, _, _, _, _, _, _, _⟩ _ _ _ _ _ ?_).mono ?_
  · exact decide_eq_false (by simp only [Head.ok, sh]; (try unfold wrap64); omega)
  rintro e w2 ⟨rfl, hb2⟩
  have hmk := make_zeros n (by omega) w2
  have hcv := conv_zeros n w2
  go_wp2_with fail
  refine (got (zeros n) _ (by rw [zs]; omega)).mono ?_
  rintro e w3 ⟨rfl, hb3⟩
  go_wp2_with (go_at_call 19; refine (numc _ _).mono ?_; rintro e w' ⟨rfl, rfl⟩)
  go_ret
  exact ⟨rfl, below_alloc (below_alloc (below_next (below_alloc (below_next (below_alloc (below_alloc (below_next (Below.refl _ _) hb1) _) _) hb2) _) hb3) _) _⟩
set_option maxHeartbeats 4000000 in
theorem forms_7_3 (u x : Int) (w : World) (hr : IntKind.u64.wrap u % 8 = 7) (D : Int) (hD : Go.bits .and .i64 x 63 = D) (d0 : 0 ≤ D) (d1 : D ≤ 63) (n : Nat) (hn : Go.bits .and .i64 x 15 = (n : Int)) (n1 : n ≤ 15) (hJ : Go.bits .and .i64 x 3 = 3) :
    Calls Try.prog 10 #[.int .i64 u, .int .i64 x] w fun e w' => e = .returned (.bool true) ∧ Below w.heap.size w w' := by
  have u0 : 0 ≤ IntKind.u64.wrap u := by rw [u64_wrap]; omega
  have m1 := zeros_E n
  have zs := zeros_size n
  go_enter Try.func10, Try.ntmps10
  go_wp2_with fail
  refine (awake6 _).mono ?_
  rintro e w1 ⟨rfl, hb1⟩
  go_wp2_with fail
  refine (putN' ⟨_, _, _, _, _, _, _, _, _⟩ _ _ _ _ _ ?_).mono ?_
  · exact decide_eq_false (by simp only [Head.ok, sh]; (try unfold wrap64); omega)
  rintro e w2 ⟨rfl, hb2⟩
  have hmk := make_zeros n (by omega) w2
  have hcv := conv_zeros n w2
  go_wp2_with fail
  refine (got (zeros n) _ (by rw [zs]; omega)).mono ?_
  rintro e w3 ⟨rfl, hb3⟩
  go_wp2_with (go_at_call 19; refine (numc _ _).mono ?_; rintro e w' ⟨rfl, rfl⟩)
  go_ret
  exact ⟨rfl, below_alloc (below_alloc (below_next (below_alloc (below_next (below_alloc (below_alloc (below_next (Below.refl _ _) hb1) _) _) hb2) _) hb3) _) _⟩
theorem forms_walk (u x : Int) (w : World) (_ : (Lit.int .i64 u).wf = true) (_ : (Lit.int .i64 x).wf = true) :
    Calls Try.prog 10 #[.int .i64 u, .int .i64 x] w fun e w' => e = .returned (.bool true) ∧ Below w.heap.size w w' := by
  have hD : Go.bits .and .i64 x 63 = x % 64 := and_mask 6 (by decide) x
  have hJ : Go.bits .and .i64 x 3 = x % 4 := and_mask 2 (by decide) x
  have hn : Go.bits .and .i64 x 15 = ((x % 16).toNat : Int) := by rw [and15]; omega
  have h8 : IntKind.u64.wrap u % 8 = 0 ∨ IntKind.u64.wrap u % 8 = 1 ∨ IntKind.u64.wrap u % 8 = 2 ∨ IntKind.u64.wrap u % 8 = 3 ∨ IntKind.u64.wrap u % 8 = 4 ∨ IntKind.u64.wrap u % 8 = 5 ∨ IntKind.u64.wrap u % 8 = 6 ∨ IntKind.u64.wrap u % 8 = 7 := by omega
  have h4 : x % 4 = 0 ∨ x % 4 = 1 ∨ x % 4 = 2 ∨ x % 4 = 3 := by omega
  rcases h8 with h | h | h | h | h | h | h | h
  · exact forms_0 u x w h (x % 64) hD (by omega) (by omega) _ hn (by omega)
  · exact forms_1 u x w h (x % 64) hD (by omega) (by omega) _ hn (by omega)
  · exact forms_2 u x w h (x % 64) hD (by omega) (by omega) _ hn (by omega)
  · exact forms_3 u x w h (x % 64) hD (by omega) (by omega) _ hn (by omega)
  · exact forms_4 u x w h (x % 64) hD (by omega) (by omega) _ hn (by omega)
  · exact forms_5 u x w h (x % 64) hD (by omega) (by omega) _ hn (by omega)
  · rcases h4 with k | k | k | k
    · exact forms_6_0 u x w h (x % 64) hD (by omega) (by omega) _ hn (by omega) (by rw [hJ, k])
    · exact forms_6_1 u x w h (x % 64) hD (by omega) (by omega) _ hn (by omega) (by rw [hJ, k])
    · exact forms_6_2 u x w h (x % 64) hD (by omega) (by omega) _ hn (by omega) (by rw [hJ, k])
    · exact forms_6_3 u x w h (x % 64) hD (by omega) (by omega) _ hn (by omega) (by rw [hJ, k])
  · rcases h4 with k | k | k | k
    · exact forms_7_0 u x w h (x % 64) hD (by omega) (by omega) _ hn (by omega) (by rw [hJ, k])
    · exact forms_7_1 u x w h (x % 64) hD (by omega) (by omega) _ hn (by omega) (by rw [hJ, k])
    · exact forms_7_2 u x w h (x % 64) hD (by omega) (by omega) _ hn (by omega) (by rw [hJ, k])
    · exact forms_7_3 u x w h (x % 64) hD (by omega) (by omega) _ hn (by omega) (by rw [hJ, k])
end Go.Proofs.Ytccnckppkkhoeaa.Hd
