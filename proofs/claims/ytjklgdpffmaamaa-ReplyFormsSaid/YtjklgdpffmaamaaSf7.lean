/- The row of the law ReplyForms, where what it reads weighs no more than the reach, out of its pure statement and the printed walk. -/
import Derived.Test.YtjklgdpffmaamaaRows
import Derived.WalkKit
import Derived.ProofKit
import Derived.OpenShut
import Derived.ShutString
import Derived.ChangeOld
import Derived.Below
import Derived.SizedLaws
import Derived.Carry
import Derived.Test.YtjklgdpffmaamaaSf1
import Derived.Test.YtjklgdpffmaamaaSf2
import Derived.Test.YtjklgdpffmaamaaSf3
import Derived.Test.YtjklgdpffmaamaaSf4
import Derived.Test.YtjklgdpffmaamaaSf5
import Derived.Test.YtjklgdpffmaamaaSf6
namespace Go.Proofs.Ytjklgdpffmaamaa.PLs
open Go.RowKit Go.Proofs.YtjklgdpffmaamaaW.PrintWords Go.Proofs.YtjklgdpffmaamaaW.PrintLast Go.Proofs.YtjklgdpffmaamaaW.PrintMore
attribute [local go_sem] max2_int min2_int max_two min_two max_three min_three max_four min_four   -- for this text's walks alone
set_option linter.unusedVariables false
set_option linter.unusedSimpArgs false

/-! ### wimpleref4_PutMsg: function 19 -/
def wm_Q4 (x : S40) : Go.Proofs.Ytjklgdpffmaamaa.Wm.Qn := ⟨x.f0, x.f1, x.f2⟩
def wm_R4 (x : S53) : Go.Proofs.Ytjklgdpffmaamaa.Wm.Rr := ⟨x.f0, x.f1, x.f2, x.f3, x.f4⟩
def wimpleref4_PutMsg.f (a0_0 : Int) (a0_1 : Bool) (a0_2 : Int) (a0_3 : Bool) (a0_4 : Bool) (a0_5 : Bool) (a0_6 : Bool) (a0_7 : Int) (a0_8 : Int) (l0_9 : List (S40)) (l0_10 : List (S53)) (l0_11 : List (S53)) (l0_12 : List (S53)) : Option (ByteArray × Int) := Go.Proofs.Ytjklgdpffmaamaa.Wm.wirePutF ⟨a0_0, a0_1, a0_2, a0_3, a0_4, a0_5, a0_6, a0_7, a0_8⟩ (l0_9.map wm_Q4) (l0_10.map wm_R4) (l0_11.map wm_R4) (l0_12.map wm_R4)
set_option maxHeartbeats 8000000 in
set_option maxRecDepth 100000 in
theorem wimpleref4_PutMsg.calls (a0_0 : Int) (a0_1 : Bool) (a0_2 : Int) (a0_3 : Bool) (a0_4 : Bool) (a0_5 : Bool) (a0_6 : Bool) (a0_7 : Int) (a0_8 : Int) (A0_9 : Option Addr) (c0_9 : Nat) (l0_9 : List (S40)) (A0_10 : Option Addr) (c0_10 : Nat) (l0_10 : List (S53)) (A0_11 : Option Addr) (c0_11 : Nat) (l0_11 : List (S53)) (A0_12 : Option Addr) (c0_12 : Nat) (l0_12 : List (S53)) (r1 : ByteArray) (r2 : Int) (w : World) (hr0_9 : Kd.C k40 w A0_9 l0_9.length l0_9) (hc0_9 : l0_9.length ≤ c0_9) (hr0_10 : Kd.C k53 w A0_10 l0_10.length l0_10) (hc0_10 : l0_10.length ≤ c0_10) (hr0_11 : Kd.C k53 w A0_11 l0_11.length l0_11) (hc0_11 : l0_11.length ≤ c0_11) (hr0_12 : Kd.C k53 w A0_12 l0_12.length l0_12) (hc0_12 : l0_12.length ≤ c0_12) (h : wimpleref4_PutMsg.f a0_0 a0_1 a0_2 a0_3 a0_4 a0_5 a0_6 a0_7 a0_8 l0_9 l0_10 l0_11 l0_12 = some (r1, r2)) :
    Calls Try.prog 19 #[.agg #[.int .i64 a0_0, .bool a0_1, .int .i64 a0_2, .bool a0_3, .bool a0_4, .bool a0_5, .bool a0_6, .int .i64 a0_7, .int .i64 a0_8, .slice A0_9 l0_9.length c0_9, .slice A0_10 l0_10.length c0_10, .slice A0_11 l0_11.length c0_11, .slice A0_12 l0_12.length c0_12]] w fun e w' => e = .returned (.tuple #[.string r1, .int .i64 r2]) ∧ Below w.heap.size w w' := by
  have hq := Go.Proofs.Ytjklgdpffmaamaa.Wm.qcells_of wm_Q4 hr0_9 (fun x cs h => k40_open h)
  have ha := Go.Proofs.Ytjklgdpffmaamaa.Wm.rcells_of wm_R4 hr0_10 (fun x cs h => k53_open h)
  have hn := Go.Proofs.Ytjklgdpffmaamaa.Wm.rcells_of wm_R4 hr0_11 (fun x cs h => k53_open h)
  have hr := Go.Proofs.Ytjklgdpffmaamaa.Wm.rcells_of wm_R4 hr0_12 (fun x cs h => k53_open h)
  have := Go.Proofs.Ytjklgdpffmaamaa.Wm.rputF h hq ha hn hr (by rw [List.length_map]; exact hc0_9) (by rw [List.length_map]; exact hc0_10) (by rw [List.length_map]; exact hc0_11) (by rw [List.length_map]; exact hc0_12)
  simpa only [List.length_map] using this

/-! ### wimplelaw0_Num: function 21 -/
def wimplelaw0_Num.f (a0 : Int) : Option (Int) := some a0
set_option maxHeartbeats 8000000 in
set_option maxRecDepth 100000 in
theorem wimplelaw0_Num.calls (a0 : Int) (r : Int) (w : World) (h : wimplelaw0_Num.f a0 = some r) :
    Calls Try.prog 21 #[.int .i64 a0] w fun e w' => e = .returned (.int .i64 r) ∧ Drawn0 w w' := by
  have H : (some a0) = some r := h
  clear h
  obtain rfl := Option.some.inj H
  go_enter Try.func21, Try.ntmps21
  go_wp2
  go_ret
  exact ⟨by first | rfl | (simp; done) | (simp [*]; done), by repeat (first | exact Drawn0.refl _ | apply Drawn0.step)⟩

/-! ### wimplelaw20_awake: function 22 -/
def wimplelaw20_awake.f (k : Nat)  : Option (Bool) := (some (([(⟨(⟨#[0]⟩ : ByteArray), 1, 1⟩ : S40)] : List (S40)) : List (S40))).bind fun y139 => ((wimpleref4_PutMsg.f 5 true 0 false false false false 0 0 y139 ([] : List (S53)) ([] : List (S53)) ([] : List (S53))).bind fun bt143 => ((match_Reply.f k bt143.1).bind fun bt145 => ((wimpleref4_PutMsg.f 5 false 0 false false false false 0 0 y139 ([] : List (S53)) ([] : List (S53)) ([] : List (S53))).bind fun bt168 => ((match_Reply.f k bt168.1).bind fun bt170 => ((match_Reply.f k (⟨#[]⟩ : ByteArray)).bind fun bt193 => (if bt145.1 = 5 then (if (bt145.2.2.2.2.2.2.2.2.2.1.length : Int) = 1 then ((wimplelaw0_Num.f bt145.2.2.2.2.2.2.2.2.2.2.2.2.2).bind fun t216 => (if t216 = 0 then ((wimplelaw0_Num.f bt170.2.2.2.2.2.2.2.2.2.2.2.2.2).bind fun t217 => (if t217 = 2000 then ((wimplelaw0_Num.f bt193.2.2.2.2.2.2.2.2.2.2.2.2.2).bind fun t218 => (some (t218 == 2000))) else (none))) else (none))) else (none)) else (none)))))))
theorem wimplelaw20_awake.mono : ∀ k, LeO (wimplelaw20_awake.f k ) (wimplelaw20_awake.f (k + 1) ) := by
  intro  k
  unfold wimplelaw20_awake.f
  repeat' first
      | (with_reducible exact match_Reply.mono _ _)
      | (with_reducible exact LeO.refl _)
      | (with_reducible exact LeO.none _)
      | (with_reducible refine LeO.ite ?_ ?_)
      | (with_reducible refine LeO.bind ?_ (fun _ => ?_))
      | exact match_Reply.mono _ _
      | exact LeO.none _
      | refine LeO.ite ?_ ?_
      | refine LeO.bind ?_ (fun _ => ?_)
set_option maxHeartbeats 8000000 in
set_option maxRecDepth 100000 in
theorem wimplelaw20_awake.calls (k : Nat)  (r : Bool) (w : World) (h : wimplelaw20_awake.f k  = some r) :
    Calls Try.prog 22 #[] w fun e w' => e = .returned (.bool r) ∧ Below w.heap.size w w' := by
  have hu23 := Try.underlying23
  have hu40 := Try.underlying40
  have hu27 := Try.underlying27
  have HB := Aside0.mk (Below.refl w.heap.size w)
  have H : ((some (([(⟨(⟨#[0]⟩ : ByteArray), 1, 1⟩ : S40)] : List (S40)) : List (S40))).bind fun y139 => ((wimpleref4_PutMsg.f 5 true 0 false false false false 0 0 y139 ([] : List (S53)) ([] : List (S53)) ([] : List (S53))).bind fun bt143 => ((match_Reply.f k bt143.1).bind fun bt145 => ((wimpleref4_PutMsg.f 5 false 0 false false false false 0 0 y139 ([] : List (S53)) ([] : List (S53)) ([] : List (S53))).bind fun bt168 => ((match_Reply.f k bt168.1).bind fun bt170 => ((match_Reply.f k (⟨#[]⟩ : ByteArray)).bind fun bt193 => (if bt145.1 = 5 then (if (bt145.2.2.2.2.2.2.2.2.2.1.length : Int) = 1 then ((wimplelaw0_Num.f bt145.2.2.2.2.2.2.2.2.2.2.2.2.2).bind fun t216 => (if t216 = 0 then ((wimplelaw0_Num.f bt170.2.2.2.2.2.2.2.2.2.2.2.2.2).bind fun t217 => (if t217 = 2000 then ((wimplelaw0_Num.f bt193.2.2.2.2.2.2.2.2.2.2.2.2.2).bind fun t218 => (some (t218 == 2000))) else (none))) else (none))) else (none)) else (none)))))))) = some r := h
  clear h
  obtain ⟨y139, hy139⟩ : ∃ y_ : List (S40), y_ = (([(⟨(⟨#[0]⟩ : ByteArray), 1, 1⟩ : S40)] : List (S40))) := ⟨_, rfl⟩
  replace H : ((wimpleref4_PutMsg.f 5 true 0 false false false false 0 0 y139 ([] : List (S53)) ([] : List (S53)) ([] : List (S53))).bind fun bt143 => ((match_Reply.f k bt143.1).bind fun bt145 => ((wimpleref4_PutMsg.f 5 false 0 false false false false 0 0 y139 ([] : List (S53)) ([] : List (S53)) ([] : List (S53))).bind fun bt168 => ((match_Reply.f k bt168.1).bind fun bt170 => ((match_Reply.f k (⟨#[]⟩ : ByteArray)).bind fun bt193 => (if bt145.1 = 5 then (if (bt145.2.2.2.2.2.2.2.2.2.1.length : Int) = 1 then ((wimplelaw0_Num.f bt145.2.2.2.2.2.2.2.2.2.2.2.2.2).bind fun t216 => (if t216 = 0 then ((wimplelaw0_Num.f bt170.2.2.2.2.2.2.2.2.2.2.2.2.2).bind fun t217 => (if t217 = 2000 then ((wimplelaw0_Num.f bt193.2.2.2.2.2.2.2.2.2.2.2.2.2).bind fun t218 => (some (t218 == 2000))) else (none))) else (none))) else (none)) else (none))))))) = some r := by first | (rw [hy139]; with_reducible exact H) | (have H2_ := (Option.bind_some _ _).symm.trans H; rw [hy139]; with_reducible exact H2_) | (have H2_ := (Option.bind_some _ _).symm.trans H; with_reducible exact H2_) | with_reducible exact H | (rw [hy139]; exact H) | exact H
  have Ny139 := Aside0.mk hy139
  clear hy139
  replace H := Option.bind_eq_some_iff.mp H
  obtain ⟨⟨t143, t144⟩, A10, H⟩ := H
  replace H : ((match_Reply.f k t143).bind fun bt145 => ((wimpleref4_PutMsg.f 5 false 0 false false false false 0 0 y139 ([] : List (S53)) ([] : List (S53)) ([] : List (S53))).bind fun bt168 => ((match_Reply.f k bt168.1).bind fun bt170 => ((match_Reply.f k (⟨#[]⟩ : ByteArray)).bind fun bt193 => (if bt145.1 = 5 then (if (bt145.2.2.2.2.2.2.2.2.2.1.length : Int) = 1 then ((wimplelaw0_Num.f bt145.2.2.2.2.2.2.2.2.2.2.2.2.2).bind fun t216 => (if t216 = 0 then ((wimplelaw0_Num.f bt170.2.2.2.2.2.2.2.2.2.2.2.2.2).bind fun t217 => (if t217 = 2000 then ((wimplelaw0_Num.f bt193.2.2.2.2.2.2.2.2.2.2.2.2.2).bind fun t218 => (some (t218 == 2000))) else (none))) else (none))) else (none)) else (none)))))) = some r := H
  have A1 := Aside0.mk A10
  clear A10
  replace H := Option.bind_eq_some_iff.mp H
  obtain ⟨⟨t145, t146, t147, t148, t149, t150, t151, t152, t153, t154, t157, t160, t163, t166⟩, A20, H⟩ := H
  replace H : ((wimpleref4_PutMsg.f 5 false 0 false false false false 0 0 y139 ([] : List (S53)) ([] : List (S53)) ([] : List (S53))).bind fun bt168 => ((match_Reply.f k bt168.1).bind fun bt170 => ((match_Reply.f k (⟨#[]⟩ : ByteArray)).bind fun bt193 => (if t145 = 5 then (if (t154.length : Int) = 1 then ((wimplelaw0_Num.f t166).bind fun t216 => (if t216 = 0 then ((wimplelaw0_Num.f bt170.2.2.2.2.2.2.2.2.2.2.2.2.2).bind fun t217 => (if t217 = 2000 then ((wimplelaw0_Num.f bt193.2.2.2.2.2.2.2.2.2.2.2.2.2).bind fun t218 => (some (t218 == 2000))) else (none))) else (none))) else (none)) else (none))))) = some r := H
  have A2 := Aside0.mk A20
  clear A20
  replace H := Option.bind_eq_some_iff.mp H
  obtain ⟨⟨t168, t169⟩, A30, H⟩ := H
  replace H : ((match_Reply.f k t168).bind fun bt170 => ((match_Reply.f k (⟨#[]⟩ : ByteArray)).bind fun bt193 => (if t145 = 5 then (if (t154.length : Int) = 1 then ((wimplelaw0_Num.f t166).bind fun t216 => (if t216 = 0 then ((wimplelaw0_Num.f bt170.2.2.2.2.2.2.2.2.2.2.2.2.2).bind fun t217 => (if t217 = 2000 then ((wimplelaw0_Num.f bt193.2.2.2.2.2.2.2.2.2.2.2.2.2).bind fun t218 => (some (t218 == 2000))) else (none))) else (none))) else (none)) else (none)))) = some r := H
  have A3 := Aside0.mk A30
  clear A30
  replace H := Option.bind_eq_some_iff.mp H
  obtain ⟨⟨t170, t171, t172, t173, t174, t175, t176, t177, t178, t179, t182, t185, t188, t191⟩, A40, H⟩ := H
  replace H : ((match_Reply.f k (⟨#[]⟩ : ByteArray)).bind fun bt193 => (if t145 = 5 then (if (t154.length : Int) = 1 then ((wimplelaw0_Num.f t166).bind fun t216 => (if t216 = 0 then ((wimplelaw0_Num.f t191).bind fun t217 => (if t217 = 2000 then ((wimplelaw0_Num.f bt193.2.2.2.2.2.2.2.2.2.2.2.2.2).bind fun t218 => (some (t218 == 2000))) else (none))) else (none))) else (none)) else (none))) = some r := H
  have A4 := Aside0.mk A40
  clear A40
  replace H := Option.bind_eq_some_iff.mp H
  obtain ⟨⟨t193, t194, t195, t196, t197, t198, t199, t200, t201, t202, t205, t208, t211, t214⟩, A50, H⟩ := H
  replace H : (if t145 = 5 then (if (t154.length : Int) = 1 then ((wimplelaw0_Num.f t166).bind fun t216 => (if t216 = 0 then ((wimplelaw0_Num.f t191).bind fun t217 => (if t217 = 2000 then ((wimplelaw0_Num.f t214).bind fun t218 => (some (t218 == 2000))) else (none))) else (none))) else (none)) else (none)) = some r := H
  have A5 := Aside0.mk A50
  clear A50
  by_cases c6 : t145 = 5
  · rw [if_pos c6] at H
    have c6b0 : (t145 == 5) = true := beq_iff_eq.mpr c6
    have c6b1 : (t145 != 5) = false := bne_eq_false_iff_eq.mpr c6
    clear c6
    by_cases c7 : (t154.length : Int) = 1
    · rw [if_pos c7] at H
      have c7b0 : ((t154.length : Int) == 1) = true := beq_iff_eq.mpr c7
      have c7b1 : ((t154.length : Int) != 1) = false := bne_eq_false_iff_eq.mpr c7
      clear c7
      replace H := Option.bind_eq_some_iff.mp H
      obtain ⟨t216, A80, H⟩ := H
      replace H : (if t216 = 0 then ((wimplelaw0_Num.f t191).bind fun t217 => (if t217 = 2000 then ((wimplelaw0_Num.f t214).bind fun t218 => (some (t218 == 2000))) else (none))) else (none)) = some r := H
      have A8 := Aside0.mk A80
      clear A80
      by_cases c9 : t216 = 0
      · rw [if_pos c9] at H
        have c9b0 : (t216 == 0) = true := beq_iff_eq.mpr c9
        have c9b1 : (t216 != 0) = false := bne_eq_false_iff_eq.mpr c9
        clear c9
        replace H := Option.bind_eq_some_iff.mp H
        obtain ⟨t217, A100, H⟩ := H
        replace H : (if t217 = 2000 then ((wimplelaw0_Num.f t214).bind fun t218 => (some (t218 == 2000))) else (none)) = some r := H
        have A10 := Aside0.mk A100
        clear A100
        by_cases c11 : t217 = 2000
        · rw [if_pos c11] at H
          have c11b0 : (t217 == 2000) = true := beq_iff_eq.mpr c11
          have c11b1 : (t217 != 2000) = false := bne_eq_false_iff_eq.mpr c11
          clear c11
          replace H := Option.bind_eq_some_iff.mp H
          obtain ⟨t218, A120, H⟩ := H
          replace H : (some (t218 == 2000)) = some r := H
          have A12 := Aside0.mk A120
          clear A120
          obtain rfl := Option.some.inj H
          go_enter Try.func22, Try.ntmps22
          go_wp2_with (first | ((with_reducible refine gate_dst (N := 14) rfl ?_); (try (refine gate_guard (by rfl) ?_; dsimp only)); refine Kd.R_lit k40 _ 40 ?hg (N := 14) ?hd (xs := ([(⟨(⟨#[0]⟩ : ByteArray), 1, 1⟩ : S40)] : List (S40))) (inner := [.string (⟨#[0]⟩ : ByteArray), .int .i64 1, .int .i64 1]) (ok := fun _ => True) (okp := fun _ => True) ?hr ?hp (fun _ hk => hk) trivial (Below.refl _ _) (Nat.le_refl _) (by simp) ?_; (case hd => rfl); (case hg => rfl); (case hr => first | (go_simp; done) | (go_simp; rfl)); (case hp => exact (Reps.c3 (show Kd.M k40 _ _ _ (⟨(⟨#[0]⟩ : ByteArray), 1, 1⟩ : S40) [.string (⟨#[0]⟩ : ByteArray), .int .i64 1, .int .i64 1] from (k40_mkM _ _ _ (⟨(⟨#[0]⟩ : ByteArray), 1, 1⟩ : S40) )) (Reps.none _ _))); intro v140 w13 ho14 hb hg_ hnew_; clear hg_ hnew_; (first | rw [← Ny139.out] at ho14 | (simp only [Int.reduceToNat] at ho14; rw [← Ny139.out] at ho14)); have n0_ := Aside0.mk (Kd.R_lower ho14 (below_size (by repeat (first | (with_reducible first | exact HB.out | apply below_alloc | apply pw_below_drewN | apply below_drew1) | exact HB.out)))); have n1_ := Aside0.mk (below_step (by repeat (first | (with_reducible first | exact HB.out | apply below_alloc | apply pw_below_drewN | apply below_drew1) | exact HB.out)) hb); clear HB; have HO141 := n0_; have HB := n1_; clear n0_ n1_; clear hb ho14; obtain ⟨Ao15, co15, eo15⟩ := Kd.R_slice HO141.out; subst eo15) | ((with_reducible refine gate_dst (N := 1) rfl ?_); (try (refine gate_guard (by rfl) ?_; dsimp only)); refine box_event ?hg (N := 1) ?hd (cs := #[.int .i64 0, .bool false, .int .i64 0, .bool false, .bool false, .bool false, .bool false, .int .i64 0, .int .i64 0, .slice none 0 0, .slice none 0 0, .slice none 0 0, .slice none 0 0]) (t := 27) ?hr ?_; (case hd => rfl); (case hg => rfl); (case hr => first | (go_simp; done) | (go_simp; rfl)); intro gb142 hg w16 hbox hb; have n0_ := Aside0.mk (Kd.R_below (by (with_reducible repeat (first | apply Kd.R_alloc | apply Kd.R_drewN | apply Kd.R_drew)); exact HO141.out) hb); have n1_ := Aside0.mk (below_step (by repeat (first | (with_reducible first | exact HB.out | apply below_alloc | apply pw_below_drewN | apply below_drew1) | exact HB.out)) hb); have n2_ := Aside0.mk (hbox); have n3_ := Aside0.mk ((by rw [hg]; exact (below_size (by repeat (first | (with_reducible first | exact HB.out | apply below_alloc | apply pw_below_drewN | apply below_drew1) | exact HB.out))) : w.heap.size ≤ gb142)); have n4_ := Aside0.mk ((by rw [hg]; exact (below_size (by repeat (first | (with_reducible first | exact HB.out | apply below_alloc | apply pw_below_drewN | apply below_drew1) | exact HB.out))) : w.heap.size ≤ gb142)); clear HO141; clear HB; have HO141 := n0_; have HB := n1_; have BK142 := n2_; have GW142 := n3_; have GE142 := n4_; clear n0_ n1_ n2_ n3_ n4_; clear hb hbox hg; (try clear hcz24_0 hcz24_1 hcz24_2 hcz24_3 hcz24_4 hfz24_0 hfz24_1 hfz24_2 hfz24_3 hfz24_4); (try clear hcz26_0 hcz26_1 hcz26_2 hcz26_3 hcz26_4 hfz26_0 hfz26_1 hfz26_2 hfz26_3 hfz26_4); (try clear hcz28_0 hcz28_1 hcz28_2 hcz28_3 hcz28_4 hfz28_0 hfz28_1 hfz28_2 hfz28_3 hfz28_4); (try clear hcz30_0 hcz30_1 hcz30_2 hcz30_3 hcz30_4 hfz30_0 hfz30_1 hfz30_2 hfz30_3 hfz30_4); (try clear hcz32_0 hcz32_1 hcz32_2 hcz32_3 hcz32_4 hfz32_0 hfz32_1 hfz32_2 hfz32_3 hfz32_4); (try clear hcz34_0 hcz34_1 hcz34_2 hcz34_3 hcz34_4 hfz34_0 hfz34_1 hfz34_2 hfz34_3 hfz34_4); have hcz17_0 : w16.cell? ⟨gb142, 0, none⟩ = some (.int .i64 0) := (blk_cell BK142.out 0).trans rfl; have hcz17_1 : w16.cell? ⟨gb142, 1, none⟩ = some (.bool false) := (blk_cell BK142.out 1).trans rfl; have hcz17_2 : w16.cell? ⟨gb142, 2, none⟩ = some (.int .i64 0) := (blk_cell BK142.out 2).trans rfl; have hcz17_3 : w16.cell? ⟨gb142, 3, none⟩ = some (.bool false) := (blk_cell BK142.out 3).trans rfl; have hcz17_4 : w16.cell? ⟨gb142, 4, none⟩ = some (.bool false) := (blk_cell BK142.out 4).trans rfl; have hcz17_5 : w16.cell? ⟨gb142, 5, none⟩ = some (.bool false) := (blk_cell BK142.out 5).trans rfl; have hcz17_6 : w16.cell? ⟨gb142, 6, none⟩ = some (.bool false) := (blk_cell BK142.out 6).trans rfl; have hcz17_7 : w16.cell? ⟨gb142, 7, none⟩ = some (.int .i64 0) := (blk_cell BK142.out 7).trans rfl; have hcz17_8 : w16.cell? ⟨gb142, 8, none⟩ = some (.int .i64 0) := (blk_cell BK142.out 8).trans rfl; have hcz17_9 : w16.cell? ⟨gb142, 9, none⟩ = some (.slice none 0 0) := (blk_cell BK142.out 9).trans rfl; have hcz17_10 : w16.cell? ⟨gb142, 10, none⟩ = some (.slice none 0 0) := (blk_cell BK142.out 10).trans rfl; have hcz17_11 : w16.cell? ⟨gb142, 11, none⟩ = some (.slice none 0 0) := (blk_cell BK142.out 11).trans rfl; have hcz17_12 : w16.cell? ⟨gb142, 12, none⟩ = some (.slice none 0 0) := (blk_cell BK142.out 12).trans rfl; have hfz17_0 := blk_frozen BK142.out 0; have hfz17_1 := blk_frozen BK142.out 1; have hfz17_2 := blk_frozen BK142.out 2; have hfz17_3 := blk_frozen BK142.out 3; have hfz17_4 := blk_frozen BK142.out 4; have hfz17_5 := blk_frozen BK142.out 5; have hfz17_6 := blk_frozen BK142.out 6; have hfz17_7 := blk_frozen BK142.out 7; have hfz17_8 := blk_frozen BK142.out 8; have hfz17_9 := blk_frozen BK142.out 9; have hfz17_10 := blk_frozen BK142.out 10; have hfz17_11 := blk_frozen BK142.out 11; have hfz17_12 := blk_frozen BK142.out 12) | ((with_reducible refine gate_dst (N := 18) rfl ?_); (try (refine gate_guard (by rfl) ?_; dsimp only)); (with_reducible refine gate_callee (f := 19) rfl ?_); refine goesL_ (some 18) rfl rfl Try.func19 (by kernel_rfl) rfl #[.agg #[.int .i64 5, .bool true, .int .i64 0, .bool false, .bool false, .bool false, .bool false, .int .i64 0, .int .i64 0, .slice Ao15 y139.length co15, .slice none 0 0, .slice none 0 0, .slice none 0 0]] rfl (by (try simp only [List.map_toArray, List.map_cons, List.map_nil]); first | done | rfl | (simp only [List.length_drop, List.length_take]; rfl)) ?_; (refine (wimpleref4_PutMsg.calls 5 true 0 false false false false 0 0 _ _ y139 _ _ ([] : List (S53)) _ _ ([] : List (S53)) _ _ ([] : List (S53)) t143 t144 _ ?side1 ?side2 ?side3 ?side4 ?side5 ?side6 ?side7 ?side8 A1.out).mono ?_); (case side1 => refine (Kd.R_reads' (e := 40) (base := w.heap.size) (ok := fun k_ => True) (n := y139.length) (c := co15) ?_).2.2; exact (by (with_reducible repeat (first | apply Kd.R_alloc | apply Kd.R_drewN | apply Kd.R_drew)); exact (Kd.R_mono (Kd.R_far (p := ⟨gb142, 12, none⟩) (Kd.R_far (p := ⟨gb142, 11, none⟩) (Kd.R_far (p := ⟨gb142, 10, none⟩) (Kd.R_far (p := ⟨gb142, 9, none⟩) (Kd.R_far (p := ⟨gb142, 8, none⟩) (Kd.R_far (p := ⟨gb142, 7, none⟩) (Kd.R_far (p := ⟨gb142, 6, none⟩) (Kd.R_far (p := ⟨gb142, 5, none⟩) (Kd.R_far (p := ⟨gb142, 4, none⟩) (Kd.R_far (p := ⟨gb142, 3, none⟩) (Kd.R_far (p := ⟨gb142, 2, none⟩) (Kd.R_far (p := ⟨gb142, 1, none⟩) (Kd.R_far (p := ⟨gb142, 0, none⟩) (Kd.R_types HO141.out BK142.out (by decide)) (fun _ hk => hk.2) (.int .i64 5)) (fun _ hk => hk.2) (.bool true)) (fun _ hk => hk.2) (.int .i64 0)) (fun _ hk => hk.2) (.bool false)) (fun _ hk => hk.2) (.bool false)) (fun _ hk => hk.2) (.bool false)) (fun _ hk => hk.2) (.bool false)) (fun _ hk => hk.2) (.int .i64 0)) (fun _ hk => hk.2) (.int .i64 0)) (fun _ hk => hk.2) (.slice Ao15 y139.length co15)) (fun _ hk => hk.2) (.slice none 0 0)) (fun _ hk => hk.2) (.slice none 0 0)) (fun _ hk => hk.2) (.slice none 0 0)) (fun _ h_ => h_.1)))); (case side2 => exact (Kd.R_reads' HO141.out).2.1); (case side3 => exact Kd.C_nil _ _); (case side4 => exact Nat.le_refl _); (case side5 => exact Kd.C_nil _ _); (case side6 => exact Nat.le_refl _); (case side7 => exact Kd.C_nil _ _); (case side8 => exact Nat.le_refl _); rintro e w18 ⟨rfl, hb⟩; refine ⟨_, rfl, ?_⟩; have n0_ := Aside0.mk (Kd.R_below (by (with_reducible repeat (first | apply Kd.R_alloc | apply Kd.R_drewN | apply Kd.R_drew)); exact (Kd.R_mono (Kd.R_far (p := ⟨gb142, 12, none⟩) (Kd.R_far (p := ⟨gb142, 11, none⟩) (Kd.R_far (p := ⟨gb142, 10, none⟩) (Kd.R_far (p := ⟨gb142, 9, none⟩) (Kd.R_far (p := ⟨gb142, 8, none⟩) (Kd.R_far (p := ⟨gb142, 7, none⟩) (Kd.R_far (p := ⟨gb142, 6, none⟩) (Kd.R_far (p := ⟨gb142, 5, none⟩) (Kd.R_far (p := ⟨gb142, 4, none⟩) (Kd.R_far (p := ⟨gb142, 3, none⟩) (Kd.R_far (p := ⟨gb142, 2, none⟩) (Kd.R_far (p := ⟨gb142, 1, none⟩) (Kd.R_far (p := ⟨gb142, 0, none⟩) (Kd.R_types HO141.out BK142.out (by decide)) (fun _ hk => hk.2) (.int .i64 5)) (fun _ hk => hk.2) (.bool true)) (fun _ hk => hk.2) (.int .i64 0)) (fun _ hk => hk.2) (.bool false)) (fun _ hk => hk.2) (.bool false)) (fun _ hk => hk.2) (.bool false)) (fun _ hk => hk.2) (.bool false)) (fun _ hk => hk.2) (.int .i64 0)) (fun _ hk => hk.2) (.int .i64 0)) (fun _ hk => hk.2) (.slice Ao15 y139.length co15)) (fun _ hk => hk.2) (.slice none 0 0)) (fun _ hk => hk.2) (.slice none 0 0)) (fun _ hk => hk.2) (.slice none 0 0)) (fun _ h_ => h_.1))) hb); have n1_ := Aside0.mk (blk_below (g := gb142) (o := .cells #[.int .i64 5, .bool true, .int .i64 0, .bool false, .bool false, .bool false, .bool false, .int .i64 0, .int .i64 0, .slice Ao15 y139.length co15, .slice none 0 0, .slice none 0 0, .slice none 0 0] 27 (0, 0)) (by (with_reducible repeat (first | refine blk_drewN ?_ _ | refine blk_drew ?_ | refine blk_alloc ?_ _)); refine blk_put (cs := #[.int .i64 5, .bool true, .int .i64 0, .bool false, .bool false, .bool false, .bool false, .int .i64 0, .int .i64 0, .slice Ao15 y139.length co15, .slice none 0 0, .slice none 0 0, .slice none 0 0]) ?_ 12 _ rfl; (with_reducible repeat (first | refine blk_drewN ?_ _ | refine blk_drew ?_ | refine blk_alloc ?_ _)); refine blk_put (cs := #[.int .i64 5, .bool true, .int .i64 0, .bool false, .bool false, .bool false, .bool false, .int .i64 0, .int .i64 0, .slice Ao15 y139.length co15, .slice none 0 0, .slice none 0 0, .slice none 0 0]) ?_ 11 _ rfl; (with_reducible repeat (first | refine blk_drewN ?_ _ | refine blk_drew ?_ | refine blk_alloc ?_ _)); refine blk_put (cs := #[.int .i64 5, .bool true, .int .i64 0, .bool false, .bool false, .bool false, .bool false, .int .i64 0, .int .i64 0, .slice Ao15 y139.length co15, .slice none 0 0, .slice none 0 0, .slice none 0 0]) ?_ 10 _ rfl; (with_reducible repeat (first | refine blk_drewN ?_ _ | refine blk_drew ?_ | refine blk_alloc ?_ _)); refine blk_put (cs := #[.int .i64 5, .bool true, .int .i64 0, .bool false, .bool false, .bool false, .bool false, .int .i64 0, .int .i64 0, .slice none 0 0, .slice none 0 0, .slice none 0 0, .slice none 0 0]) ?_ 9 _ rfl; (with_reducible repeat (first | refine blk_drewN ?_ _ | refine blk_drew ?_ | refine blk_alloc ?_ _)); refine blk_put (cs := #[.int .i64 5, .bool true, .int .i64 0, .bool false, .bool false, .bool false, .bool false, .int .i64 0, .int .i64 0, .slice none 0 0, .slice none 0 0, .slice none 0 0, .slice none 0 0]) ?_ 8 _ rfl; (with_reducible repeat (first | refine blk_drewN ?_ _ | refine blk_drew ?_ | refine blk_alloc ?_ _)); refine blk_put (cs := #[.int .i64 5, .bool true, .int .i64 0, .bool false, .bool false, .bool false, .bool false, .int .i64 0, .int .i64 0, .slice none 0 0, .slice none 0 0, .slice none 0 0, .slice none 0 0]) ?_ 7 _ rfl; (with_reducible repeat (first | refine blk_drewN ?_ _ | refine blk_drew ?_ | refine blk_alloc ?_ _)); refine blk_put (cs := #[.int .i64 5, .bool true, .int .i64 0, .bool false, .bool false, .bool false, .bool false, .int .i64 0, .int .i64 0, .slice none 0 0, .slice none 0 0, .slice none 0 0, .slice none 0 0]) ?_ 6 _ rfl; (with_reducible repeat (first | refine blk_drewN ?_ _ | refine blk_drew ?_ | refine blk_alloc ?_ _)); refine blk_put (cs := #[.int .i64 5, .bool true, .int .i64 0, .bool false, .bool false, .bool false, .bool false, .int .i64 0, .int .i64 0, .slice none 0 0, .slice none 0 0, .slice none 0 0, .slice none 0 0]) ?_ 5 _ rfl; (with_reducible repeat (first | refine blk_drewN ?_ _ | refine blk_drew ?_ | refine blk_alloc ?_ _)); refine blk_put (cs := #[.int .i64 5, .bool true, .int .i64 0, .bool false, .bool false, .bool false, .bool false, .int .i64 0, .int .i64 0, .slice none 0 0, .slice none 0 0, .slice none 0 0, .slice none 0 0]) ?_ 4 _ rfl; (with_reducible repeat (first | refine blk_drewN ?_ _ | refine blk_drew ?_ | refine blk_alloc ?_ _)); refine blk_put (cs := #[.int .i64 5, .bool true, .int .i64 0, .bool false, .bool false, .bool false, .bool false, .int .i64 0, .int .i64 0, .slice none 0 0, .slice none 0 0, .slice none 0 0, .slice none 0 0]) ?_ 3 _ rfl; (with_reducible repeat (first | refine blk_drewN ?_ _ | refine blk_drew ?_ | refine blk_alloc ?_ _)); refine blk_put (cs := #[.int .i64 5, .bool true, .int .i64 0, .bool false, .bool false, .bool false, .bool false, .int .i64 0, .int .i64 0, .slice none 0 0, .slice none 0 0, .slice none 0 0, .slice none 0 0]) ?_ 2 _ rfl; (with_reducible repeat (first | refine blk_drewN ?_ _ | refine blk_drew ?_ | refine blk_alloc ?_ _)); refine blk_put (cs := #[.int .i64 5, .bool false, .int .i64 0, .bool false, .bool false, .bool false, .bool false, .int .i64 0, .int .i64 0, .slice none 0 0, .slice none 0 0, .slice none 0 0, .slice none 0 0]) ?_ 1 _ rfl; (with_reducible repeat (first | refine blk_drewN ?_ _ | refine blk_drew ?_ | refine blk_alloc ?_ _)); refine blk_put (cs := #[.int .i64 0, .bool false, .int .i64 0, .bool false, .bool false, .bool false, .bool false, .int .i64 0, .int .i64 0, .slice none 0 0, .slice none 0 0, .slice none 0 0, .slice none 0 0]) ?_ 0 _ rfl; (with_reducible repeat (first | refine blk_drewN ?_ _ | refine blk_drew ?_ | refine blk_alloc ?_ _)); exact BK142.out) hb); have n2_ := Aside0.mk (below_step (by repeat (first | (with_reducible first | exact HB.out | apply below_alloc | apply pw_below_drewN | apply below_drew1 | refine below_set ?_ GE142.out) | exact HB.out)) hb); clear HO141; clear BK142; clear HB; have HO141 := n0_; have BK142 := n1_; have HB := n2_; clear n0_ n1_ n2_; (try clear hb); (try clear hb2); (try clear hk); (try clear hi)) | ((with_reducible refine gate_dst (N := 23) rfl ?_); (try (refine gate_guard (by rfl) ?_; dsimp only)); (with_reducible refine gate_callee (f := 17) rfl ?_); refine goesL_ (some 23) rfl rfl Try.func17 (by kernel_rfl) rfl #[.string t143] rfl (by (try simp only [List.map_toArray, List.map_cons, List.map_nil]); first | done | rfl | (simp only [List.length_drop, List.length_take]; rfl)) ?_; (with_reducible refine (match_Reply.calls k t143 t145 t146 t147 t148 t149 t150 t151 t152 t153 t154 t157 t160 t163 t166 _ A2.out).mono ?_); rintro e w19 ⟨v155, v158, v161, v164, rfl, ho0, ho1, ho2, ho3, hb⟩; refine ⟨_, rfl, ?_⟩; have n0_ := Aside0.mk (Kd.R_elder' (by (with_reducible repeat (first | apply Kd.R_alloc | apply Kd.R_drewN | apply Kd.R_drew)); exact HO141.out) (Kd.R_base ho0) hb); have n1_ := Aside0.mk (Kd.R_lower (Kd.R_new' ho0 (Kd.R_lt (by (with_reducible repeat (first | apply Kd.R_alloc | apply Kd.R_drewN | apply Kd.R_drew)); exact HO141.out))) (below_size (by repeat (first | (with_reducible first | exact HB.out | apply below_alloc | apply pw_below_drewN | apply below_drew1 | refine below_set ?_ GE142.out) | exact HB.out)))); have n2_ := Aside0.mk (Kd.R_lower ho1 (below_size (by repeat (first | (with_reducible first | exact HB.out | apply below_alloc | apply pw_below_drewN | apply below_drew1 | refine below_set ?_ GE142.out) | exact HB.out)))); have n3_ := Aside0.mk (Kd.R_lower ho2 (below_size (by repeat (first | (with_reducible first | exact HB.out | apply below_alloc | apply pw_below_drewN | apply below_drew1 | refine below_set ?_ GE142.out) | exact HB.out)))); have n4_ := Aside0.mk (Kd.R_lower ho3 (below_size (by repeat (first | (with_reducible first | exact HB.out | apply below_alloc | apply pw_below_drewN | apply below_drew1 | refine below_set ?_ GE142.out) | exact HB.out)))); have n5_ := Aside0.mk (blk_below (g := gb142) (o := .cells #[.int .i64 5, .bool true, .int .i64 0, .bool false, .bool false, .bool false, .bool false, .int .i64 0, .int .i64 0, .slice Ao15 y139.length co15, .slice none 0 0, .slice none 0 0, .slice none 0 0] 27 (0, 0)) (by (with_reducible repeat (first | refine blk_drewN ?_ _ | refine blk_drew ?_ | refine blk_alloc ?_ _)); exact BK142.out) hb); have n6_ := Aside0.mk (below_step (by repeat (first | (with_reducible first | exact HB.out | apply below_alloc | apply pw_below_drewN | apply below_drew1 | refine below_set ?_ GE142.out) | exact HB.out)) hb); clear HO141; clear BK142; clear HB; have HO141 := n0_; have HO156 := n1_; have HO159 := n2_; have HO162 := n3_; have HO165 := n4_; have BK142 := n5_; have HB := n6_; clear n0_ n1_ n2_ n3_ n4_ n5_ n6_; (try clear hb); (try clear hb2); (try clear hk); (try clear hi); (try clear ho0); (try clear ho1); (try clear ho2); (try clear ho3)) | ((with_reducible refine gate_dst (N := 4) rfl ?_); (try (refine gate_guard (by rfl) ?_; dsimp only)); refine box_event ?hg (N := 4) ?hd (cs := #[.int .i64 0, .bool false, .int .i64 0, .bool false, .bool false, .bool false, .bool false, .int .i64 0, .int .i64 0, .slice none 0 0, .slice none 0 0, .slice none 0 0, .slice none 0 0]) (t := 27) ?hr ?_; (case hd => rfl); (case hg => rfl); (case hr => first | (go_simp; done) | (go_simp; rfl)); intro gb167 hg w20 hbox hb; have n0_ := Aside0.mk (Kd.R_below (by (with_reducible repeat (first | apply Kd.R_alloc | apply Kd.R_drewN | apply Kd.R_drew)); exact HO141.out) hb); have n1_ := Aside0.mk (Kd.R_below (by (with_reducible repeat (first | apply Kd.R_alloc | apply Kd.R_drewN | apply Kd.R_drew)); exact HO156.out) hb); have n2_ := Aside0.mk (Kd.R_below (by (with_reducible repeat (first | apply Kd.R_alloc | apply Kd.R_drewN | apply Kd.R_drew)); exact HO159.out) hb); have n3_ := Aside0.mk (Kd.R_below (by (with_reducible repeat (first | apply Kd.R_alloc | apply Kd.R_drewN | apply Kd.R_drew)); exact HO162.out) hb); have n4_ := Aside0.mk (Kd.R_below (by (with_reducible repeat (first | apply Kd.R_alloc | apply Kd.R_drewN | apply Kd.R_drew)); exact HO165.out) hb); have n5_ := Aside0.mk (blk_below (g := gb142) (o := .cells #[.int .i64 5, .bool true, .int .i64 0, .bool false, .bool false, .bool false, .bool false, .int .i64 0, .int .i64 0, .slice Ao15 y139.length co15, .slice none 0 0, .slice none 0 0, .slice none 0 0] 27 (0, 0)) (by (with_reducible repeat (first | refine blk_drewN ?_ _ | refine blk_drew ?_ | refine blk_alloc ?_ _)); exact BK142.out) hb); have n6_ := Aside0.mk (below_step (by repeat (first | (with_reducible first | exact HB.out | apply below_alloc | apply pw_below_drewN | apply below_drew1 | refine below_set ?_ GE142.out) | exact HB.out)) hb); have n7_ := Aside0.mk (hbox); have n8_ := Aside0.mk ((by rw [hg]; exact (below_size (by repeat (first | (with_reducible first | exact HB.out | apply below_alloc | apply pw_below_drewN | apply below_drew1 | refine below_set ?_ GE142.out) | exact HB.out))) : w.heap.size ≤ gb167)); have n9_ := Aside0.mk ((by rw [hg]; exact (below_size (by repeat (first | (with_reducible first | exact HB.out | apply below_alloc | apply pw_below_drewN | apply below_drew1 | refine below_set ?_ GE142.out) | exact HB.out))) : w.heap.size ≤ gb167)); have n10_ := Aside0.mk ((by rw [hg]; exact Nat.ne_of_lt (blk_lt (g := gb142) (o := .cells #[.int .i64 5, .bool true, .int .i64 0, .bool false, .bool false, .bool false, .bool false, .int .i64 0, .int .i64 0, .slice Ao15 y139.length co15, .slice none 0 0, .slice none 0 0, .slice none 0 0] 27 (0, 0)) (by (with_reducible repeat (first | refine blk_drewN ?_ _ | refine blk_drew ?_ | refine blk_alloc ?_ _)); exact BK142.out)) : gb142 ≠ gb167)); have n11_ := Aside0.mk ((by rw [hg]; exact Nat.ne_of_gt (blk_lt (g := gb142) (o := .cells #[.int .i64 5, .bool true, .int .i64 0, .bool false, .bool false, .bool false, .bool false, .int .i64 0, .int .i64 0, .slice Ao15 y139.length co15, .slice none 0 0, .slice none 0 0, .slice none 0 0] 27 (0, 0)) (by (with_reducible repeat (first | refine blk_drewN ?_ _ | refine blk_drew ?_ | refine blk_alloc ?_ _)); exact BK142.out)) : gb167 ≠ gb142)); clear HO141; clear HO156; clear HO159; clear HO162; clear HO165; clear BK142; clear HB; have HO141 := n0_; have HO156 := n1_; have HO159 := n2_; have HO162 := n3_; have HO165 := n4_; have BK142 := n5_; have HB := n6_; have BK167 := n7_; have GW167 := n8_; have GE167 := n9_; have NB142_167 := n10_; have NB167_142 := n11_; clear n0_ n1_ n2_ n3_ n4_ n5_ n6_ n7_ n8_ n9_ n10_ n11_; clear hb hbox hg; have hnb21 := NB167_142.out; have hnc21 := NB142_167.out; (try clear hcz26_0 hcz26_1 hcz26_2 hcz26_3 hcz26_4 hfz26_0 hfz26_1 hfz26_2 hfz26_3 hfz26_4); (try clear hcz28_0 hcz28_1 hcz28_2 hcz28_3 hcz28_4 hfz28_0 hfz28_1 hfz28_2 hfz28_3 hfz28_4); (try clear hcz30_0 hcz30_1 hcz30_2 hcz30_3 hcz30_4 hfz30_0 hfz30_1 hfz30_2 hfz30_3 hfz30_4); (try clear hcz32_0 hcz32_1 hcz32_2 hcz32_3 hcz32_4 hfz32_0 hfz32_1 hfz32_2 hfz32_3 hfz32_4); (try clear hcz34_0 hcz34_1 hcz34_2 hcz34_3 hcz34_4 hfz34_0 hfz34_1 hfz34_2 hfz34_3 hfz34_4); (try clear hcz17_0 hcz17_1 hcz17_2 hcz17_3 hcz17_4 hcz17_5 hcz17_6 hcz17_7 hcz17_8 hcz17_9 hcz17_10 hcz17_11 hcz17_12 hfz17_0 hfz17_1 hfz17_2 hfz17_3 hfz17_4 hfz17_5 hfz17_6 hfz17_7 hfz17_8 hfz17_9 hfz17_10 hfz17_11 hfz17_12); have hcz22_0 : w20.cell? ⟨gb167, 0, none⟩ = some (.int .i64 0) := (blk_cell BK167.out 0).trans rfl; have hcz22_1 : w20.cell? ⟨gb167, 1, none⟩ = some (.bool false) := (blk_cell BK167.out 1).trans rfl; have hcz22_2 : w20.cell? ⟨gb167, 2, none⟩ = some (.int .i64 0) := (blk_cell BK167.out 2).trans rfl; have hcz22_3 : w20.cell? ⟨gb167, 3, none⟩ = some (.bool false) := (blk_cell BK167.out 3).trans rfl; have hcz22_4 : w20.cell? ⟨gb167, 4, none⟩ = some (.bool false) := (blk_cell BK167.out 4).trans rfl; have hcz22_5 : w20.cell? ⟨gb167, 5, none⟩ = some (.bool false) := (blk_cell BK167.out 5).trans rfl; have hcz22_6 : w20.cell? ⟨gb167, 6, none⟩ = some (.bool false) := (blk_cell BK167.out 6).trans rfl; have hcz22_7 : w20.cell? ⟨gb167, 7, none⟩ = some (.int .i64 0) := (blk_cell BK167.out 7).trans rfl; have hcz22_8 : w20.cell? ⟨gb167, 8, none⟩ = some (.int .i64 0) := (blk_cell BK167.out 8).trans rfl; have hcz22_9 : w20.cell? ⟨gb167, 9, none⟩ = some (.slice none 0 0) := (blk_cell BK167.out 9).trans rfl; have hcz22_10 : w20.cell? ⟨gb167, 10, none⟩ = some (.slice none 0 0) := (blk_cell BK167.out 10).trans rfl; have hcz22_11 : w20.cell? ⟨gb167, 11, none⟩ = some (.slice none 0 0) := (blk_cell BK167.out 11).trans rfl; have hcz22_12 : w20.cell? ⟨gb167, 12, none⟩ = some (.slice none 0 0) := (blk_cell BK167.out 12).trans rfl; have hfz22_0 := blk_frozen BK167.out 0; have hfz22_1 := blk_frozen BK167.out 1; have hfz22_2 := blk_frozen BK167.out 2; have hfz22_3 := blk_frozen BK167.out 3; have hfz22_4 := blk_frozen BK167.out 4; have hfz22_5 := blk_frozen BK167.out 5; have hfz22_6 := blk_frozen BK167.out 6; have hfz22_7 := blk_frozen BK167.out 7; have hfz22_8 := blk_frozen BK167.out 8; have hfz22_9 := blk_frozen BK167.out 9; have hfz22_10 := blk_frozen BK167.out 10; have hfz22_11 := blk_frozen BK167.out 11; have hfz22_12 := blk_frozen BK167.out 12; obtain ⟨Ao23, co23, eo23⟩ := Kd.R_slice HO156.out; subst eo23; obtain ⟨Ao24, co24, eo24⟩ := Kd.R_slice HO159.out; subst eo24; obtain ⟨Ao25, co25, eo25⟩ := Kd.R_slice HO162.out; subst eo25; obtain ⟨Ao26, co26, eo26⟩ := Kd.R_slice HO165.out; subst eo26; (try clear hcz28_0 hcz28_1 hcz28_2 hcz28_3 hcz28_4 hfz28_0 hfz28_1 hfz28_2 hfz28_3 hfz28_4); (try clear hcz30_0 hcz30_1 hcz30_2 hcz30_3 hcz30_4 hfz30_0 hfz30_1 hfz30_2 hfz30_3 hfz30_4); (try clear hcz32_0 hcz32_1 hcz32_2 hcz32_3 hcz32_4 hfz32_0 hfz32_1 hfz32_2 hfz32_3 hfz32_4); (try clear hcz34_0 hcz34_1 hcz34_2 hcz34_3 hcz34_4 hfz34_0 hfz34_1 hfz34_2 hfz34_3 hfz34_4); (try clear hcz17_0 hcz17_1 hcz17_2 hcz17_3 hcz17_4 hcz17_5 hcz17_6 hcz17_7 hcz17_8 hcz17_9 hcz17_10 hcz17_11 hcz17_12 hfz17_0 hfz17_1 hfz17_2 hfz17_3 hfz17_4 hfz17_5 hfz17_6 hfz17_7 hfz17_8 hfz17_9 hfz17_10 hfz17_11 hfz17_12); have hcz27_0 : w20.cell? ⟨gb142, 0, none⟩ = some (.int .i64 5) := (blk_cell BK142.out 0).trans rfl; have hcz27_1 : w20.cell? ⟨gb142, 1, none⟩ = some (.bool true) := (blk_cell BK142.out 1).trans rfl; have hcz27_2 : w20.cell? ⟨gb142, 2, none⟩ = some (.int .i64 0) := (blk_cell BK142.out 2).trans rfl; have hcz27_3 : w20.cell? ⟨gb142, 3, none⟩ = some (.bool false) := (blk_cell BK142.out 3).trans rfl; have hcz27_4 : w20.cell? ⟨gb142, 4, none⟩ = some (.bool false) := (blk_cell BK142.out 4).trans rfl; have hcz27_5 : w20.cell? ⟨gb142, 5, none⟩ = some (.bool false) := (blk_cell BK142.out 5).trans rfl; have hcz27_6 : w20.cell? ⟨gb142, 6, none⟩ = some (.bool false) := (blk_cell BK142.out 6).trans rfl; have hcz27_7 : w20.cell? ⟨gb142, 7, none⟩ = some (.int .i64 0) := (blk_cell BK142.out 7).trans rfl; have hcz27_8 : w20.cell? ⟨gb142, 8, none⟩ = some (.int .i64 0) := (blk_cell BK142.out 8).trans rfl; have hcz27_9 : w20.cell? ⟨gb142, 9, none⟩ = some (.slice Ao15 y139.length co15) := (blk_cell BK142.out 9).trans rfl; have hcz27_10 : w20.cell? ⟨gb142, 10, none⟩ = some (.slice none 0 0) := (blk_cell BK142.out 10).trans rfl; have hcz27_11 : w20.cell? ⟨gb142, 11, none⟩ = some (.slice none 0 0) := (blk_cell BK142.out 11).trans rfl; have hcz27_12 : w20.cell? ⟨gb142, 12, none⟩ = some (.slice none 0 0) := (blk_cell BK142.out 12).trans rfl; have hfz27_0 := blk_frozen BK142.out 0; have hfz27_1 := blk_frozen BK142.out 1; have hfz27_2 := blk_frozen BK142.out 2; have hfz27_3 := blk_frozen BK142.out 3; have hfz27_4 := blk_frozen BK142.out 4; have hfz27_5 := blk_frozen BK142.out 5; have hfz27_6 := blk_frozen BK142.out 6; have hfz27_7 := blk_frozen BK142.out 7; have hfz27_8 := blk_frozen BK142.out 8; have hfz27_9 := blk_frozen BK142.out 9; have hfz27_10 := blk_frozen BK142.out 10; have hfz27_11 := blk_frozen BK142.out 11; have hfz27_12 := blk_frozen BK142.out 12) | ((with_reducible refine gate_dst (N := 30) rfl ?_); (try (refine gate_guard (by rfl) ?_; dsimp only)); (with_reducible refine gate_callee (f := 19) rfl ?_); refine goesL_ (some 30) rfl rfl Try.func19 (by kernel_rfl) rfl #[.agg #[.int .i64 5, .bool false, .int .i64 0, .bool false, .bool false, .bool false, .bool false, .int .i64 0, .int .i64 0, .slice Ao15 y139.length co15, .slice none 0 0, .slice none 0 0, .slice none 0 0]] rfl (by (try simp only [List.map_toArray, List.map_cons, List.map_nil]); first | done | rfl | (simp only [List.length_drop, List.length_take]; rfl)) ?_; (refine (wimpleref4_PutMsg.calls 5 false 0 false false false false 0 0 _ _ y139 _ _ ([] : List (S53)) _ _ ([] : List (S53)) _ _ ([] : List (S53)) t168 t169 _ ?side1 ?side2 ?side3 ?side4 ?side5 ?side6 ?side7 ?side8 A3.out).mono ?_); (case side1 => refine (Kd.R_reads' (e := 40) (base := w.heap.size) (ok := fun k_ => (True ∧ some k_ ≠ (.slice Ao23 t154.length co23 : Value).ownBlock)) (n := y139.length) (c := co15) ?_).2.2; exact (by (with_reducible repeat (first | apply Kd.R_alloc | apply Kd.R_drewN | apply Kd.R_drew)); exact (Kd.R_mono (Kd.R_mono (Kd.R_far (p := ⟨gb142, 1, none⟩) (Kd.R_far (p := ⟨gb167, 12, none⟩) (Kd.R_far (p := ⟨gb167, 11, none⟩) (Kd.R_far (p := ⟨gb167, 10, none⟩) (Kd.R_far (p := ⟨gb167, 9, none⟩) (Kd.R_far (p := ⟨gb167, 8, none⟩) (Kd.R_far (p := ⟨gb167, 7, none⟩) (Kd.R_far (p := ⟨gb167, 6, none⟩) (Kd.R_far (p := ⟨gb167, 5, none⟩) (Kd.R_far (p := ⟨gb167, 4, none⟩) (Kd.R_far (p := ⟨gb167, 3, none⟩) (Kd.R_far (p := ⟨gb167, 2, none⟩) (Kd.R_far (p := ⟨gb167, 1, none⟩) (Kd.R_far (p := ⟨gb167, 0, none⟩) (Kd.R_types (Kd.R_types HO141.out BK167.out (by decide)) BK142.out (by decide)) (fun _ hk => hk.1.2) (.int .i64 t145)) (fun _ hk => hk.1.2) (.bool t146)) (fun _ hk => hk.1.2) (.int .i64 t147)) (fun _ hk => hk.1.2) (.bool t148)) (fun _ hk => hk.1.2) (.bool t149)) (fun _ hk => hk.1.2) (.bool t150)) (fun _ hk => hk.1.2) (.bool t151)) (fun _ hk => hk.1.2) (.int .i64 t152)) (fun _ hk => hk.1.2) (.int .i64 t153)) (fun _ hk => hk.1.2) (.slice Ao23 t154.length co23)) (fun _ hk => hk.1.2) (.slice Ao24 t157.length co24)) (fun _ hk => hk.1.2) (.slice Ao25 t160.length co25)) (fun _ hk => hk.1.2) (.slice Ao26 t163.length co26)) (fun _ hk => hk.2) (.bool false)) (fun _ h_ => h_.1)) (fun _ h_ => h_.1)))); (case side2 => exact (Kd.R_reads' HO141.out).2.1); (case side3 => exact Kd.C_nil _ _); (case side4 => exact Nat.le_refl _); (case side5 => exact Kd.C_nil _ _); (case side6 => exact Nat.le_refl _); (case side7 => exact Kd.C_nil _ _); (case side8 => exact Nat.le_refl _); rintro e w28 ⟨rfl, hb⟩; refine ⟨_, rfl, ?_⟩; have n0_ := Aside0.mk (Kd.R_below (by (with_reducible repeat (first | apply Kd.R_alloc | apply Kd.R_drewN | apply Kd.R_drew)); exact (Kd.R_mono (Kd.R_mono (Kd.R_far (p := ⟨gb142, 1, none⟩) (Kd.R_far (p := ⟨gb167, 12, none⟩) (Kd.R_far (p := ⟨gb167, 11, none⟩) (Kd.R_far (p := ⟨gb167, 10, none⟩) (Kd.R_far (p := ⟨gb167, 9, none⟩) (Kd.R_far (p := ⟨gb167, 8, none⟩) (Kd.R_far (p := ⟨gb167, 7, none⟩) (Kd.R_far (p := ⟨gb167, 6, none⟩) (Kd.R_far (p := ⟨gb167, 5, none⟩) (Kd.R_far (p := ⟨gb167, 4, none⟩) (Kd.R_far (p := ⟨gb167, 3, none⟩) (Kd.R_far (p := ⟨gb167, 2, none⟩) (Kd.R_far (p := ⟨gb167, 1, none⟩) (Kd.R_far (p := ⟨gb167, 0, none⟩) (Kd.R_types (Kd.R_types HO141.out BK167.out (by decide)) BK142.out (by decide)) (fun _ hk => hk.1.2) (.int .i64 t145)) (fun _ hk => hk.1.2) (.bool t146)) (fun _ hk => hk.1.2) (.int .i64 t147)) (fun _ hk => hk.1.2) (.bool t148)) (fun _ hk => hk.1.2) (.bool t149)) (fun _ hk => hk.1.2) (.bool t150)) (fun _ hk => hk.1.2) (.bool t151)) (fun _ hk => hk.1.2) (.int .i64 t152)) (fun _ hk => hk.1.2) (.int .i64 t153)) (fun _ hk => hk.1.2) (.slice Ao23 t154.length co23)) (fun _ hk => hk.1.2) (.slice Ao24 t157.length co24)) (fun _ hk => hk.1.2) (.slice Ao25 t160.length co25)) (fun _ hk => hk.1.2) (.slice Ao26 t163.length co26)) (fun _ hk => hk.2) (.bool false)) (fun _ h_ => h_.1)) (fun _ h_ => h_.1))) hb); have n1_ := Aside0.mk (Kd.R_below (by (with_reducible repeat (first | apply Kd.R_alloc | apply Kd.R_drewN | apply Kd.R_drew)); exact (Kd.R_mono (Kd.R_mono (Kd.R_far (p := ⟨gb142, 1, none⟩) (Kd.R_far (p := ⟨gb167, 12, none⟩) (Kd.R_far (p := ⟨gb167, 11, none⟩) (Kd.R_far (p := ⟨gb167, 10, none⟩) (Kd.R_far (p := ⟨gb167, 9, none⟩) (Kd.R_far (p := ⟨gb167, 8, none⟩) (Kd.R_far (p := ⟨gb167, 7, none⟩) (Kd.R_far (p := ⟨gb167, 6, none⟩) (Kd.R_far (p := ⟨gb167, 5, none⟩) (Kd.R_far (p := ⟨gb167, 4, none⟩) (Kd.R_far (p := ⟨gb167, 3, none⟩) (Kd.R_far (p := ⟨gb167, 2, none⟩) (Kd.R_far (p := ⟨gb167, 1, none⟩) (Kd.R_far (p := ⟨gb167, 0, none⟩) (Kd.R_types (Kd.R_types HO156.out BK167.out (by decide)) BK142.out (by decide)) (fun _ hk => hk.1.2) (.int .i64 t145)) (fun _ hk => hk.1.2) (.bool t146)) (fun _ hk => hk.1.2) (.int .i64 t147)) (fun _ hk => hk.1.2) (.bool t148)) (fun _ hk => hk.1.2) (.bool t149)) (fun _ hk => hk.1.2) (.bool t150)) (fun _ hk => hk.1.2) (.bool t151)) (fun _ hk => hk.1.2) (.int .i64 t152)) (fun _ hk => hk.1.2) (.int .i64 t153)) (fun _ hk => hk.1.2) (.slice Ao23 t154.length co23)) (fun _ hk => hk.1.2) (.slice Ao24 t157.length co24)) (fun _ hk => hk.1.2) (.slice Ao25 t160.length co25)) (fun _ hk => hk.1.2) (.slice Ao26 t163.length co26)) (fun _ hk => hk.2) (.bool false)) (fun _ h_ => h_.1)) (fun _ h_ => h_.1))) hb); have n2_ := Aside0.mk (Kd.R_below (by (with_reducible repeat (first | apply Kd.R_alloc | apply Kd.R_drewN | apply Kd.R_drew)); exact (Kd.R_mono (Kd.R_mono (Kd.R_far (p := ⟨gb142, 1, none⟩) (Kd.R_far (p := ⟨gb167, 12, none⟩) (Kd.R_far (p := ⟨gb167, 11, none⟩) (Kd.R_far (p := ⟨gb167, 10, none⟩) (Kd.R_far (p := ⟨gb167, 9, none⟩) (Kd.R_far (p := ⟨gb167, 8, none⟩) (Kd.R_far (p := ⟨gb167, 7, none⟩) (Kd.R_far (p := ⟨gb167, 6, none⟩) (Kd.R_far (p := ⟨gb167, 5, none⟩) (Kd.R_far (p := ⟨gb167, 4, none⟩) (Kd.R_far (p := ⟨gb167, 3, none⟩) (Kd.R_far (p := ⟨gb167, 2, none⟩) (Kd.R_far (p := ⟨gb167, 1, none⟩) (Kd.R_far (p := ⟨gb167, 0, none⟩) (Kd.R_types (Kd.R_types HO159.out BK167.out (by decide)) BK142.out (by decide)) (fun _ hk => hk.1.2) (.int .i64 t145)) (fun _ hk => hk.1.2) (.bool t146)) (fun _ hk => hk.1.2) (.int .i64 t147)) (fun _ hk => hk.1.2) (.bool t148)) (fun _ hk => hk.1.2) (.bool t149)) (fun _ hk => hk.1.2) (.bool t150)) (fun _ hk => hk.1.2) (.bool t151)) (fun _ hk => hk.1.2) (.int .i64 t152)) (fun _ hk => hk.1.2) (.int .i64 t153)) (fun _ hk => hk.1.2) (.slice Ao23 t154.length co23)) (fun _ hk => hk.1.2) (.slice Ao24 t157.length co24)) (fun _ hk => hk.1.2) (.slice Ao25 t160.length co25)) (fun _ hk => hk.1.2) (.slice Ao26 t163.length co26)) (fun _ hk => hk.2) (.bool false)) (fun _ h_ => h_.1)) (fun _ h_ => h_.1))) hb); have n3_ := Aside0.mk (Kd.R_below (by (with_reducible repeat (first | apply Kd.R_alloc | apply Kd.R_drewN | apply Kd.R_drew)); exact (Kd.R_mono (Kd.R_mono (Kd.R_far (p := ⟨gb142, 1, none⟩) (Kd.R_far (p := ⟨gb167, 12, none⟩) (Kd.R_far (p := ⟨gb167, 11, none⟩) (Kd.R_far (p := ⟨gb167, 10, none⟩) (Kd.R_far (p := ⟨gb167, 9, none⟩) (Kd.R_far (p := ⟨gb167, 8, none⟩) (Kd.R_far (p := ⟨gb167, 7, none⟩) (Kd.R_far (p := ⟨gb167, 6, none⟩) (Kd.R_far (p := ⟨gb167, 5, none⟩) (Kd.R_far (p := ⟨gb167, 4, none⟩) (Kd.R_far (p := ⟨gb167, 3, none⟩) (Kd.R_far (p := ⟨gb167, 2, none⟩) (Kd.R_far (p := ⟨gb167, 1, none⟩) (Kd.R_far (p := ⟨gb167, 0, none⟩) (Kd.R_types (Kd.R_types HO162.out BK167.out (by decide)) BK142.out (by decide)) (fun _ hk => hk.1.2) (.int .i64 t145)) (fun _ hk => hk.1.2) (.bool t146)) (fun _ hk => hk.1.2) (.int .i64 t147)) (fun _ hk => hk.1.2) (.bool t148)) (fun _ hk => hk.1.2) (.bool t149)) (fun _ hk => hk.1.2) (.bool t150)) (fun _ hk => hk.1.2) (.bool t151)) (fun _ hk => hk.1.2) (.int .i64 t152)) (fun _ hk => hk.1.2) (.int .i64 t153)) (fun _ hk => hk.1.2) (.slice Ao23 t154.length co23)) (fun _ hk => hk.1.2) (.slice Ao24 t157.length co24)) (fun _ hk => hk.1.2) (.slice Ao25 t160.length co25)) (fun _ hk => hk.1.2) (.slice Ao26 t163.length co26)) (fun _ hk => hk.2) (.bool false)) (fun _ h_ => h_.1)) (fun _ h_ => h_.1))) hb); have n4_ := Aside0.mk (Kd.R_below (by (with_reducible repeat (first | apply Kd.R_alloc | apply Kd.R_drewN | apply Kd.R_drew)); exact (Kd.R_mono (Kd.R_mono (Kd.R_far (p := ⟨gb142, 1, none⟩) (Kd.R_far (p := ⟨gb167, 12, none⟩) (Kd.R_far (p := ⟨gb167, 11, none⟩) (Kd.R_far (p := ⟨gb167, 10, none⟩) (Kd.R_far (p := ⟨gb167, 9, none⟩) (Kd.R_far (p := ⟨gb167, 8, none⟩) (Kd.R_far (p := ⟨gb167, 7, none⟩) (Kd.R_far (p := ⟨gb167, 6, none⟩) (Kd.R_far (p := ⟨gb167, 5, none⟩) (Kd.R_far (p := ⟨gb167, 4, none⟩) (Kd.R_far (p := ⟨gb167, 3, none⟩) (Kd.R_far (p := ⟨gb167, 2, none⟩) (Kd.R_far (p := ⟨gb167, 1, none⟩) (Kd.R_far (p := ⟨gb167, 0, none⟩) (Kd.R_types (Kd.R_types HO165.out BK167.out (by decide)) BK142.out (by decide)) (fun _ hk => hk.1.2) (.int .i64 t145)) (fun _ hk => hk.1.2) (.bool t146)) (fun _ hk => hk.1.2) (.int .i64 t147)) (fun _ hk => hk.1.2) (.bool t148)) (fun _ hk => hk.1.2) (.bool t149)) (fun _ hk => hk.1.2) (.bool t150)) (fun _ hk => hk.1.2) (.bool t151)) (fun _ hk => hk.1.2) (.int .i64 t152)) (fun _ hk => hk.1.2) (.int .i64 t153)) (fun _ hk => hk.1.2) (.slice Ao23 t154.length co23)) (fun _ hk => hk.1.2) (.slice Ao24 t157.length co24)) (fun _ hk => hk.1.2) (.slice Ao25 t160.length co25)) (fun _ hk => hk.1.2) (.slice Ao26 t163.length co26)) (fun _ hk => hk.2) (.bool false)) (fun _ h_ => h_.1)) (fun _ h_ => h_.1))) hb); have n5_ := Aside0.mk (blk_below (g := gb142) (o := .cells #[.int .i64 5, .bool false, .int .i64 0, .bool false, .bool false, .bool false, .bool false, .int .i64 0, .int .i64 0, .slice Ao15 y139.length co15, .slice none 0 0, .slice none 0 0, .slice none 0 0] 27 (0, 0)) (by (with_reducible repeat (first | refine blk_drewN ?_ _ | refine blk_drew ?_ | refine blk_alloc ?_ _)); refine blk_put (cs := #[.int .i64 5, .bool true, .int .i64 0, .bool false, .bool false, .bool false, .bool false, .int .i64 0, .int .i64 0, .slice Ao15 y139.length co15, .slice none 0 0, .slice none 0 0, .slice none 0 0]) ?_ 1 _ rfl; (with_reducible repeat (first | refine blk_drewN ?_ _ | refine blk_drew ?_ | refine blk_alloc ?_ _)); refine blk_far ?_ NB142_167.out _; (with_reducible repeat (first | refine blk_drewN ?_ _ | refine blk_drew ?_ | refine blk_alloc ?_ _)); refine blk_far ?_ NB142_167.out _; (with_reducible repeat (first | refine blk_drewN ?_ _ | refine blk_drew ?_ | refine blk_alloc ?_ _)); refine blk_far ?_ NB142_167.out _; (with_reducible repeat (first | refine blk_drewN ?_ _ | refine blk_drew ?_ | refine blk_alloc ?_ _)); refine blk_far ?_ NB142_167.out _; (with_reducible repeat (first | refine blk_drewN ?_ _ | refine blk_drew ?_ | refine blk_alloc ?_ _)); refine blk_far ?_ NB142_167.out _; (with_reducible repeat (first | refine blk_drewN ?_ _ | refine blk_drew ?_ | refine blk_alloc ?_ _)); refine blk_far ?_ NB142_167.out _; (with_reducible repeat (first | refine blk_drewN ?_ _ | refine blk_drew ?_ | refine blk_alloc ?_ _)); refine blk_far ?_ NB142_167.out _; (with_reducible repeat (first | refine blk_drewN ?_ _ | refine blk_drew ?_ | refine blk_alloc ?_ _)); refine blk_far ?_ NB142_167.out _; (with_reducible repeat (first | refine blk_drewN ?_ _ | refine blk_drew ?_ | refine blk_alloc ?_ _)); refine blk_far ?_ NB142_167.out _; (with_reducible repeat (first | refine blk_drewN ?_ _ | refine blk_drew ?_ | refine blk_alloc ?_ _)); refine blk_far ?_ NB142_167.out _; (with_reducible repeat (first | refine blk_drewN ?_ _ | refine blk_drew ?_ | refine blk_alloc ?_ _)); refine blk_far ?_ NB142_167.out _; (with_reducible repeat (first | refine blk_drewN ?_ _ | refine blk_drew ?_ | refine blk_alloc ?_ _)); refine blk_far ?_ NB142_167.out _; (with_reducible repeat (first | refine blk_drewN ?_ _ | refine blk_drew ?_ | refine blk_alloc ?_ _)); refine blk_far ?_ NB142_167.out _; (with_reducible repeat (first | refine blk_drewN ?_ _ | refine blk_drew ?_ | refine blk_alloc ?_ _)); exact BK142.out) hb); have n6_ := Aside0.mk (blk_below (g := gb167) (o := .cells #[.int .i64 t145, .bool t146, .int .i64 t147, .bool t148, .bool t149, .bool t150, .bool t151, .int .i64 t152, .int .i64 t153, .slice Ao23 t154.length co23, .slice Ao24 t157.length co24, .slice Ao25 t160.length co25, .slice Ao26 t163.length co26] 27 (0, 0)) (by (with_reducible repeat (first | refine blk_drewN ?_ _ | refine blk_drew ?_ | refine blk_alloc ?_ _)); refine blk_far ?_ NB167_142.out _; (with_reducible repeat (first | refine blk_drewN ?_ _ | refine blk_drew ?_ | refine blk_alloc ?_ _)); refine blk_put (cs := #[.int .i64 t145, .bool t146, .int .i64 t147, .bool t148, .bool t149, .bool t150, .bool t151, .int .i64 t152, .int .i64 t153, .slice Ao23 t154.length co23, .slice Ao24 t157.length co24, .slice Ao25 t160.length co25, .slice none 0 0]) ?_ 12 _ rfl; (with_reducible repeat (first | refine blk_drewN ?_ _ | refine blk_drew ?_ | refine blk_alloc ?_ _)); refine blk_put (cs := #[.int .i64 t145, .bool t146, .int .i64 t147, .bool t148, .bool t149, .bool t150, .bool t151, .int .i64 t152, .int .i64 t153, .slice Ao23 t154.length co23, .slice Ao24 t157.length co24, .slice none 0 0, .slice none 0 0]) ?_ 11 _ rfl; (with_reducible repeat (first | refine blk_drewN ?_ _ | refine blk_drew ?_ | refine blk_alloc ?_ _)); refine blk_put (cs := #[.int .i64 t145, .bool t146, .int .i64 t147, .bool t148, .bool t149, .bool t150, .bool t151, .int .i64 t152, .int .i64 t153, .slice Ao23 t154.length co23, .slice none 0 0, .slice none 0 0, .slice none 0 0]) ?_ 10 _ rfl; (with_reducible repeat (first | refine blk_drewN ?_ _ | refine blk_drew ?_ | refine blk_alloc ?_ _)); refine blk_put (cs := #[.int .i64 t145, .bool t146, .int .i64 t147, .bool t148, .bool t149, .bool t150, .bool t151, .int .i64 t152, .int .i64 t153, .slice none 0 0, .slice none 0 0, .slice none 0 0, .slice none 0 0]) ?_ 9 _ rfl; (with_reducible repeat (first | refine blk_drewN ?_ _ | refine blk_drew ?_ | refine blk_alloc ?_ _)); refine blk_put (cs := #[.int .i64 t145, .bool t146, .int .i64 t147, .bool t148, .bool t149, .bool t150, .bool t151, .int .i64 t152, .int .i64 0, .slice none 0 0, .slice none 0 0, .slice none 0 0, .slice none 0 0]) ?_ 8 _ rfl; (with_reducible repeat (first | refine blk_drewN ?_ _ | refine blk_drew ?_ | refine blk_alloc ?_ _)); refine blk_put (cs := #[.int .i64 t145, .bool t146, .int .i64 t147, .bool t148, .bool t149, .bool t150, .bool t151, .int .i64 0, .int .i64 0, .slice none 0 0, .slice none 0 0, .slice none 0 0, .slice none 0 0]) ?_ 7 _ rfl; (with_reducible repeat (first | refine blk_drewN ?_ _ | refine blk_drew ?_ | refine blk_alloc ?_ _)); refine blk_put (cs := #[.int .i64 t145, .bool t146, .int .i64 t147, .bool t148, .bool t149, .bool t150, .bool false, .int .i64 0, .int .i64 0, .slice none 0 0, .slice none 0 0, .slice none 0 0, .slice none 0 0]) ?_ 6 _ rfl; (with_reducible repeat (first | refine blk_drewN ?_ _ | refine blk_drew ?_ | refine blk_alloc ?_ _)); refine blk_put (cs := #[.int .i64 t145, .bool t146, .int .i64 t147, .bool t148, .bool t149, .bool false, .bool false, .int .i64 0, .int .i64 0, .slice none 0 0, .slice none 0 0, .slice none 0 0, .slice none 0 0]) ?_ 5 _ rfl; (with_reducible repeat (first | refine blk_drewN ?_ _ | refine blk_drew ?_ | refine blk_alloc ?_ _)); refine blk_put (cs := #[.int .i64 t145, .bool t146, .int .i64 t147, .bool t148, .bool false, .bool false, .bool false, .int .i64 0, .int .i64 0, .slice none 0 0, .slice none 0 0, .slice none 0 0, .slice none 0 0]) ?_ 4 _ rfl; (with_reducible repeat (first | refine blk_drewN ?_ _ | refine blk_drew ?_ | refine blk_alloc ?_ _)); refine blk_put (cs := #[.int .i64 t145, .bool t146, .int .i64 t147, .bool false, .bool false, .bool false, .bool false, .int .i64 0, .int .i64 0, .slice none 0 0, .slice none 0 0, .slice none 0 0, .slice none 0 0]) ?_ 3 _ rfl; (with_reducible repeat (first | refine blk_drewN ?_ _ | refine blk_drew ?_ | refine blk_alloc ?_ _)); refine blk_put (cs := #[.int .i64 t145, .bool t146, .int .i64 0, .bool false, .bool false, .bool false, .bool false, .int .i64 0, .int .i64 0, .slice none 0 0, .slice none 0 0, .slice none 0 0, .slice none 0 0]) ?_ 2 _ rfl; (with_reducible repeat (first | refine blk_drewN ?_ _ | refine blk_drew ?_ | refine blk_alloc ?_ _)); refine blk_put (cs := #[.int .i64 t145, .bool false, .int .i64 0, .bool false, .bool false, .bool false, .bool false, .int .i64 0, .int .i64 0, .slice none 0 0, .slice none 0 0, .slice none 0 0, .slice none 0 0]) ?_ 1 _ rfl; (with_reducible repeat (first | refine blk_drewN ?_ _ | refine blk_drew ?_ | refine blk_alloc ?_ _)); refine blk_put (cs := #[.int .i64 0, .bool false, .int .i64 0, .bool false, .bool false, .bool false, .bool false, .int .i64 0, .int .i64 0, .slice none 0 0, .slice none 0 0, .slice none 0 0, .slice none 0 0]) ?_ 0 _ rfl; (with_reducible repeat (first | refine blk_drewN ?_ _ | refine blk_drew ?_ | refine blk_alloc ?_ _)); exact BK167.out) hb); have n7_ := Aside0.mk (below_step (by repeat (first | (with_reducible first | exact HB.out | apply below_alloc | apply pw_below_drewN | apply below_drew1 | refine below_set ?_ GE142.out | refine below_set ?_ GE167.out) | exact HB.out)) hb); clear HO141; clear HO156; clear HO159; clear HO162; clear HO165; clear BK142; clear BK167; clear HB; have HO141 := n0_; have HO156 := n1_; have HO159 := n2_; have HO162 := n3_; have HO165 := n4_; have BK142 := n5_; have BK167 := n6_; have HB := n7_; clear n0_ n1_ n2_ n3_ n4_ n5_ n6_ n7_; (try clear hb); (try clear hb2); (try clear hk); (try clear hi)) | ((with_reducible refine gate_dst (N := 35) rfl ?_); (try (refine gate_guard (by rfl) ?_; dsimp only)); (with_reducible refine gate_callee (f := 17) rfl ?_); refine goesL_ (some 35) rfl rfl Try.func17 (by kernel_rfl) rfl #[.string t168] rfl (by (try simp only [List.map_toArray, List.map_cons, List.map_nil]); first | done | rfl | (simp only [List.length_drop, List.length_take]; rfl)) ?_; (with_reducible refine (match_Reply.calls k t168 t170 t171 t172 t173 t174 t175 t176 t177 t178 t179 t182 t185 t188 t191 _ A4.out).mono ?_); rintro e w29 ⟨v180, v183, v186, v189, rfl, ho0, ho1, ho2, ho3, hb⟩; refine ⟨_, rfl, ?_⟩; have n0_ := Aside0.mk (Kd.R_elder' (by (with_reducible repeat (first | apply Kd.R_alloc | apply Kd.R_drewN | apply Kd.R_drew)); exact HO141.out) (Kd.R_base ho0) hb); have n1_ := Aside0.mk (Kd.R_elder' (by (with_reducible repeat (first | apply Kd.R_alloc | apply Kd.R_drewN | apply Kd.R_drew)); exact HO156.out) (Kd.R_base ho0) hb); have n2_ := Aside0.mk (Kd.R_mono (Kd.R_told (Kd.R_told (Kd.R_told (Kd.R_old (by (with_reducible repeat (first | apply Kd.R_alloc | apply Kd.R_drewN | apply Kd.R_drew)); exact HO159.out) hb) (Kd.R_base ho1)) (Kd.R_base ho2)) (Kd.R_base ho3)) (fun _ h_ => h_.1)); have n3_ := Aside0.mk (Kd.R_mono (Kd.R_told (Kd.R_told (Kd.R_told (Kd.R_old (by (with_reducible repeat (first | apply Kd.R_alloc | apply Kd.R_drewN | apply Kd.R_drew)); exact HO162.out) hb) (Kd.R_base ho1)) (Kd.R_base ho2)) (Kd.R_base ho3)) (fun _ h_ => h_.1)); have n4_ := Aside0.mk (Kd.R_mono (Kd.R_told (Kd.R_told (Kd.R_told (Kd.R_old (by (with_reducible repeat (first | apply Kd.R_alloc | apply Kd.R_drewN | apply Kd.R_drew)); exact HO165.out) hb) (Kd.R_base ho1)) (Kd.R_base ho2)) (Kd.R_base ho3)) (fun _ h_ => h_.1)); have n5_ := Aside0.mk (Kd.R_lower (Kd.R_new' (Kd.R_new' ho0 (Kd.R_lt (by (with_reducible repeat (first | apply Kd.R_alloc | apply Kd.R_drewN | apply Kd.R_drew)); exact HO141.out))) (Kd.R_lt (by (with_reducible repeat (first | apply Kd.R_alloc | apply Kd.R_drewN | apply Kd.R_drew)); exact HO156.out))) (below_size (by repeat (first | (with_reducible first | exact HB.out | apply below_alloc | apply pw_below_drewN | apply below_drew1 | refine below_set ?_ GE142.out | refine below_set ?_ GE167.out) | exact HB.out)))); have n6_ := Aside0.mk (Kd.R_lower (Kd.R_new' (Kd.R_new' (Kd.R_new' ho1 (Kd.R_lt (by (with_reducible repeat (first | apply Kd.R_alloc | apply Kd.R_drewN | apply Kd.R_drew)); exact HO159.out))) (Kd.R_lt (by (with_reducible repeat (first | apply Kd.R_alloc | apply Kd.R_drewN | apply Kd.R_drew)); exact HO162.out))) (Kd.R_lt (by (with_reducible repeat (first | apply Kd.R_alloc | apply Kd.R_drewN | apply Kd.R_drew)); exact HO165.out))) (below_size (by repeat (first | (with_reducible first | exact HB.out | apply below_alloc | apply pw_below_drewN | apply below_drew1 | refine below_set ?_ GE142.out | refine below_set ?_ GE167.out) | exact HB.out)))); have n7_ := Aside0.mk (Kd.R_lower (Kd.R_new' (Kd.R_new' (Kd.R_new' ho2 (Kd.R_lt (by (with_reducible repeat (first | apply Kd.R_alloc | apply Kd.R_drewN | apply Kd.R_drew)); exact HO159.out))) (Kd.R_lt (by (with_reducible repeat (first | apply Kd.R_alloc | apply Kd.R_drewN | apply Kd.R_drew)); exact HO162.out))) (Kd.R_lt (by (with_reducible repeat (first | apply Kd.R_alloc | apply Kd.R_drewN | apply Kd.R_drew)); exact HO165.out))) (below_size (by repeat (first | (with_reducible first | exact HB.out | apply below_alloc | apply pw_below_drewN | apply below_drew1 | refine below_set ?_ GE142.out | refine below_set ?_ GE167.out) | exact HB.out)))); have n8_ := Aside0.mk (Kd.R_lower (Kd.R_new' (Kd.R_new' (Kd.R_new' ho3 (Kd.R_lt (by (with_reducible repeat (first | apply Kd.R_alloc | apply Kd.R_drewN | apply Kd.R_drew)); exact HO159.out))) (Kd.R_lt (by (with_reducible repeat (first | apply Kd.R_alloc | apply Kd.R_drewN | apply Kd.R_drew)); exact HO162.out))) (Kd.R_lt (by (with_reducible repeat (first | apply Kd.R_alloc | apply Kd.R_drewN | apply Kd.R_drew)); exact HO165.out))) (below_size (by repeat (first | (with_reducible first | exact HB.out | apply below_alloc | apply pw_below_drewN | apply below_drew1 | refine below_set ?_ GE142.out | refine below_set ?_ GE167.out) | exact HB.out)))); have n9_ := Aside0.mk (blk_below (g := gb142) (o := .cells #[.int .i64 5, .bool false, .int .i64 0, .bool false, .bool false, .bool false, .bool false, .int .i64 0, .int .i64 0, .slice Ao15 y139.length co15, .slice none 0 0, .slice none 0 0, .slice none 0 0] 27 (0, 0)) (by (with_reducible repeat (first | refine blk_drewN ?_ _ | refine blk_drew ?_ | refine blk_alloc ?_ _)); exact BK142.out) hb); have n10_ := Aside0.mk (blk_below (g := gb167) (o := .cells #[.int .i64 t145, .bool t146, .int .i64 t147, .bool t148, .bool t149, .bool t150, .bool t151, .int .i64 t152, .int .i64 t153, .slice Ao23 t154.length co23, .slice Ao24 t157.length co24, .slice Ao25 t160.length co25, .slice Ao26 t163.length co26] 27 (0, 0)) (by (with_reducible repeat (first | refine blk_drewN ?_ _ | refine blk_drew ?_ | refine blk_alloc ?_ _)); exact BK167.out) hb); have n11_ := Aside0.mk (below_step (by repeat (first | (with_reducible first | exact HB.out | apply below_alloc | apply pw_below_drewN | apply below_drew1 | refine below_set ?_ GE142.out | refine below_set ?_ GE167.out) | exact HB.out)) hb); clear HO141; clear HO156; clear HO159; clear HO162; clear HO165; clear BK142; clear BK167; clear HB; have HO141 := n0_; have HO156 := n1_; have HO159 := n2_; have HO162 := n3_; have HO165 := n4_; have HO181 := n5_; have HO184 := n6_; have HO187 := n7_; have HO190 := n8_; have BK142 := n9_; have BK167 := n10_; have HB := n11_; clear n0_ n1_ n2_ n3_ n4_ n5_ n6_ n7_ n8_ n9_ n10_ n11_; (try clear hb); (try clear hb2); (try clear hk); (try clear hi); (try clear ho0); (try clear ho1); (try clear ho2); (try clear ho3)) | ((with_reducible refine gate_dst (N := 8) rfl ?_); (try (refine gate_guard (by rfl) ?_; dsimp only)); refine box_event ?hg (N := 8) ?hd (cs := #[.int .i64 0, .bool false, .int .i64 0, .bool false, .bool false, .bool false, .bool false, .int .i64 0, .int .i64 0, .slice none 0 0, .slice none 0 0, .slice none 0 0, .slice none 0 0]) (t := 27) ?hr ?_; (case hd => rfl); (case hg => rfl); (case hr => first | (go_simp; done) | (go_simp; rfl)); intro gb192 hg w30 hbox hb; have n0_ := Aside0.mk (Kd.R_below (by (with_reducible repeat (first | apply Kd.R_alloc | apply Kd.R_drewN | apply Kd.R_drew)); exact HO141.out) hb); have n1_ := Aside0.mk (Kd.R_below (by (with_reducible repeat (first | apply Kd.R_alloc | apply Kd.R_drewN | apply Kd.R_drew)); exact HO156.out) hb); have n2_ := Aside0.mk (Kd.R_below (by (with_reducible repeat (first | apply Kd.R_alloc | apply Kd.R_drewN | apply Kd.R_drew)); exact HO159.out) hb); have n3_ := Aside0.mk (Kd.R_below (by (with_reducible repeat (first | apply Kd.R_alloc | apply Kd.R_drewN | apply Kd.R_drew)); exact HO162.out) hb); have n4_ := Aside0.mk (Kd.R_below (by (with_reducible repeat (first | apply Kd.R_alloc | apply Kd.R_drewN | apply Kd.R_drew)); exact HO165.out) hb); have n5_ := Aside0.mk (Kd.R_below (by (with_reducible repeat (first | apply Kd.R_alloc | apply Kd.R_drewN | apply Kd.R_drew)); exact HO181.out) hb); have n6_ := Aside0.mk (Kd.R_below (by (with_reducible repeat (first | apply Kd.R_alloc | apply Kd.R_drewN | apply Kd.R_drew)); exact HO184.out) hb); have n7_ := Aside0.mk (Kd.R_below (by (with_reducible repeat (first | apply Kd.R_alloc | apply Kd.R_drewN | apply Kd.R_drew)); exact HO187.out) hb); have n8_ := Aside0.mk (Kd.R_below (by (with_reducible repeat (first | apply Kd.R_alloc | apply Kd.R_drewN | apply Kd.R_drew)); exact HO190.out) hb); have n9_ := Aside0.mk (blk_below (g := gb142) (o := .cells #[.int .i64 5, .bool false, .int .i64 0, .bool false, .bool false, .bool false, .bool false, .int .i64 0, .int .i64 0, .slice Ao15 y139.length co15, .slice none 0 0, .slice none 0 0, .slice none 0 0] 27 (0, 0)) (by (with_reducible repeat (first | refine blk_drewN ?_ _ | refine blk_drew ?_ | refine blk_alloc ?_ _)); exact BK142.out) hb); have n10_ := Aside0.mk (blk_below (g := gb167) (o := .cells #[.int .i64 t145, .bool t146, .int .i64 t147, .bool t148, .bool t149, .bool t150, .bool t151, .int .i64 t152, .int .i64 t153, .slice Ao23 t154.length co23, .slice Ao24 t157.length co24, .slice Ao25 t160.length co25, .slice Ao26 t163.length co26] 27 (0, 0)) (by (with_reducible repeat (first | refine blk_drewN ?_ _ | refine blk_drew ?_ | refine blk_alloc ?_ _)); exact BK167.out) hb); have n11_ := Aside0.mk (below_step (by repeat (first | (with_reducible first | exact HB.out | apply below_alloc | apply pw_below_drewN | apply below_drew1 | refine below_set ?_ GE142.out | refine below_set ?_ GE167.out) | exact HB.out)) hb); have n12_ := Aside0.mk (hbox); have n13_ := Aside0.mk ((by rw [hg]; exact (below_size (by repeat (first | (with_reducible first | exact HB.out | apply below_alloc | apply pw_below_drewN | apply below_drew1 | refine below_set ?_ GE142.out | refine below_set ?_ GE167.out) | exact HB.out))) : w.heap.size ≤ gb192)); have n14_ := Aside0.mk ((by rw [hg]; exact (below_size (by repeat (first | (with_reducible first | exact HB.out | apply below_alloc | apply pw_below_drewN | apply below_drew1 | refine below_set ?_ GE142.out | refine below_set ?_ GE167.out) | exact HB.out))) : w.heap.size ≤ gb192)); have n15_ := Aside0.mk ((by rw [hg]; exact Nat.ne_of_lt (blk_lt (g := gb142) (o := .cells #[.int .i64 5, .bool false, .int .i64 0, .bool false, .bool false, .bool false, .bool false, .int .i64 0, .int .i64 0, .slice Ao15 y139.length co15, .slice none 0 0, .slice none 0 0, .slice none 0 0] 27 (0, 0)) (by (with_reducible repeat (first | refine blk_drewN ?_ _ | refine blk_drew ?_ | refine blk_alloc ?_ _)); exact BK142.out)) : gb142 ≠ gb192)); have n16_ := Aside0.mk ((by rw [hg]; exact Nat.ne_of_gt (blk_lt (g := gb142) (o := .cells #[.int .i64 5, .bool false, .int .i64 0, .bool false, .bool false, .bool false, .bool false, .int .i64 0, .int .i64 0, .slice Ao15 y139.length co15, .slice none 0 0, .slice none 0 0, .slice none 0 0] 27 (0, 0)) (by (with_reducible repeat (first | refine blk_drewN ?_ _ | refine blk_drew ?_ | refine blk_alloc ?_ _)); exact BK142.out)) : gb192 ≠ gb142)); have n17_ := Aside0.mk ((by rw [hg]; exact Nat.ne_of_lt (blk_lt (g := gb167) (o := .cells #[.int .i64 t145, .bool t146, .int .i64 t147, .bool t148, .bool t149, .bool t150, .bool t151, .int .i64 t152, .int .i64 t153, .slice Ao23 t154.length co23, .slice Ao24 t157.length co24, .slice Ao25 t160.length co25, .slice Ao26 t163.length co26] 27 (0, 0)) (by (with_reducible repeat (first | refine blk_drewN ?_ _ | refine blk_drew ?_ | refine blk_alloc ?_ _)); exact BK167.out)) : gb167 ≠ gb192)); have n18_ := Aside0.mk ((by rw [hg]; exact Nat.ne_of_gt (blk_lt (g := gb167) (o := .cells #[.int .i64 t145, .bool t146, .int .i64 t147, .bool t148, .bool t149, .bool t150, .bool t151, .int .i64 t152, .int .i64 t153, .slice Ao23 t154.length co23, .slice Ao24 t157.length co24, .slice Ao25 t160.length co25, .slice Ao26 t163.length co26] 27 (0, 0)) (by (with_reducible repeat (first | refine blk_drewN ?_ _ | refine blk_drew ?_ | refine blk_alloc ?_ _)); exact BK167.out)) : gb192 ≠ gb167)); clear HO141; clear HO156; clear HO159; clear HO162; clear HO165; clear HO181; clear HO184; clear HO187; clear HO190; clear BK142; clear BK167; clear HB; have HO141 := n0_; have HO156 := n1_; have HO159 := n2_; have HO162 := n3_; have HO165 := n4_; have HO181 := n5_; have HO184 := n6_; have HO187 := n7_; have HO190 := n8_; have BK142 := n9_; have BK167 := n10_; have HB := n11_; have BK192 := n12_; have GW192 := n13_; have GE192 := n14_; have NB142_192 := n15_; have NB192_142 := n16_; have NB167_192 := n17_; have NB192_167 := n18_; clear n0_ n1_ n2_ n3_ n4_ n5_ n6_ n7_ n8_ n9_ n10_ n11_ n12_ n13_ n14_ n15_ n16_ n17_ n18_; clear hb hbox hg; have hnb31 := NB192_142.out; have hnc31 := NB142_192.out; have hnb32 := NB192_167.out; have hnc32 := NB167_192.out; (try clear hcz30_0 hcz30_1 hcz30_2 hcz30_3 hcz30_4 hfz30_0 hfz30_1 hfz30_2 hfz30_3 hfz30_4); (try clear hcz32_0 hcz32_1 hcz32_2 hcz32_3 hcz32_4 hfz32_0 hfz32_1 hfz32_2 hfz32_3 hfz32_4); (try clear hcz34_0 hcz34_1 hcz34_2 hcz34_3 hcz34_4 hfz34_0 hfz34_1 hfz34_2 hfz34_3 hfz34_4); (try clear hcz17_0 hcz17_1 hcz17_2 hcz17_3 hcz17_4 hcz17_5 hcz17_6 hcz17_7 hcz17_8 hcz17_9 hcz17_10 hcz17_11 hcz17_12 hfz17_0 hfz17_1 hfz17_2 hfz17_3 hfz17_4 hfz17_5 hfz17_6 hfz17_7 hfz17_8 hfz17_9 hfz17_10 hfz17_11 hfz17_12); (try clear hcz22_0 hcz22_1 hcz22_2 hcz22_3 hcz22_4 hcz22_5 hcz22_6 hcz22_7 hcz22_8 hcz22_9 hcz22_10 hcz22_11 hcz22_12 hfz22_0 hfz22_1 hfz22_2 hfz22_3 hfz22_4 hfz22_5 hfz22_6 hfz22_7 hfz22_8 hfz22_9 hfz22_10 hfz22_11 hfz22_12); (try clear hcz27_0 hcz27_1 hcz27_2 hcz27_3 hcz27_4 hcz27_5 hcz27_6 hcz27_7 hcz27_8 hcz27_9 hcz27_10 hcz27_11 hcz27_12 hfz27_0 hfz27_1 hfz27_2 hfz27_3 hfz27_4 hfz27_5 hfz27_6 hfz27_7 hfz27_8 hfz27_9 hfz27_10 hfz27_11 hfz27_12); have hcz33_0 : w30.cell? ⟨gb192, 0, none⟩ = some (.int .i64 0) := (blk_cell BK192.out 0).trans rfl; have hcz33_1 : w30.cell? ⟨gb192, 1, none⟩ = some (.bool false) := (blk_cell BK192.out 1).trans rfl; have hcz33_2 : w30.cell? ⟨gb192, 2, none⟩ = some (.int .i64 0) := (blk_cell BK192.out 2).trans rfl; have hcz33_3 : w30.cell? ⟨gb192, 3, none⟩ = some (.bool false) := (blk_cell BK192.out 3).trans rfl; have hcz33_4 : w30.cell? ⟨gb192, 4, none⟩ = some (.bool false) := (blk_cell BK192.out 4).trans rfl; have hcz33_5 : w30.cell? ⟨gb192, 5, none⟩ = some (.bool false) := (blk_cell BK192.out 5).trans rfl; have hcz33_6 : w30.cell? ⟨gb192, 6, none⟩ = some (.bool false) := (blk_cell BK192.out 6).trans rfl; have hcz33_7 : w30.cell? ⟨gb192, 7, none⟩ = some (.int .i64 0) := (blk_cell BK192.out 7).trans rfl; have hcz33_8 : w30.cell? ⟨gb192, 8, none⟩ = some (.int .i64 0) := (blk_cell BK192.out 8).trans rfl; have hcz33_9 : w30.cell? ⟨gb192, 9, none⟩ = some (.slice none 0 0) := (blk_cell BK192.out 9).trans rfl; have hcz33_10 : w30.cell? ⟨gb192, 10, none⟩ = some (.slice none 0 0) := (blk_cell BK192.out 10).trans rfl; have hcz33_11 : w30.cell? ⟨gb192, 11, none⟩ = some (.slice none 0 0) := (blk_cell BK192.out 11).trans rfl; have hcz33_12 : w30.cell? ⟨gb192, 12, none⟩ = some (.slice none 0 0) := (blk_cell BK192.out 12).trans rfl; have hfz33_0 := blk_frozen BK192.out 0; have hfz33_1 := blk_frozen BK192.out 1; have hfz33_2 := blk_frozen BK192.out 2; have hfz33_3 := blk_frozen BK192.out 3; have hfz33_4 := blk_frozen BK192.out 4; have hfz33_5 := blk_frozen BK192.out 5; have hfz33_6 := blk_frozen BK192.out 6; have hfz33_7 := blk_frozen BK192.out 7; have hfz33_8 := blk_frozen BK192.out 8; have hfz33_9 := blk_frozen BK192.out 9; have hfz33_10 := blk_frozen BK192.out 10; have hfz33_11 := blk_frozen BK192.out 11; have hfz33_12 := blk_frozen BK192.out 12; obtain ⟨Ao34, co34, eo34⟩ := Kd.R_slice HO181.out; subst eo34; obtain ⟨Ao35, co35, eo35⟩ := Kd.R_slice HO184.out; subst eo35; obtain ⟨Ao36, co36, eo36⟩ := Kd.R_slice HO187.out; subst eo36; obtain ⟨Ao37, co37, eo37⟩ := Kd.R_slice HO190.out; subst eo37) | ((with_reducible refine gate_dst (N := 39) rfl ?_); (try (refine gate_guard (by rfl) ?_; dsimp only)); (with_reducible refine gate_callee (f := 17) rfl ?_); refine goesL_ (some 39) rfl rfl Try.func17 (by kernel_rfl) rfl #[.string (⟨#[]⟩ : ByteArray)] rfl (by (try simp only [List.map_toArray, List.map_cons, List.map_nil]); first | done | rfl | (simp only [List.length_drop, List.length_take]; rfl)) ?_; (with_reducible refine (match_Reply.calls k (⟨#[]⟩ : ByteArray) t193 t194 t195 t196 t197 t198 t199 t200 t201 t202 t205 t208 t211 t214 _ A5.out).mono ?_); rintro e w38 ⟨v203, v206, v209, v212, rfl, ho0, ho1, ho2, ho3, hb⟩; refine ⟨_, rfl, ?_⟩; have n0_ := Aside0.mk (Kd.R_elder' (by (with_reducible repeat (first | apply Kd.R_alloc | apply Kd.R_drewN | apply Kd.R_drew)); exact (Kd.R_mono (Kd.R_far (p := ⟨gb192, 12, none⟩) (Kd.R_far (p := ⟨gb192, 11, none⟩) (Kd.R_far (p := ⟨gb192, 10, none⟩) (Kd.R_far (p := ⟨gb192, 9, none⟩) (Kd.R_far (p := ⟨gb192, 8, none⟩) (Kd.R_far (p := ⟨gb192, 7, none⟩) (Kd.R_far (p := ⟨gb192, 6, none⟩) (Kd.R_far (p := ⟨gb192, 5, none⟩) (Kd.R_far (p := ⟨gb192, 4, none⟩) (Kd.R_far (p := ⟨gb192, 3, none⟩) (Kd.R_far (p := ⟨gb192, 2, none⟩) (Kd.R_far (p := ⟨gb192, 1, none⟩) (Kd.R_far (p := ⟨gb192, 0, none⟩) (Kd.R_types HO141.out BK192.out (by decide)) (fun _ hk => hk.2) (.int .i64 t170)) (fun _ hk => hk.2) (.bool t171)) (fun _ hk => hk.2) (.int .i64 t172)) (fun _ hk => hk.2) (.bool t173)) (fun _ hk => hk.2) (.bool t174)) (fun _ hk => hk.2) (.bool t175)) (fun _ hk => hk.2) (.bool t176)) (fun _ hk => hk.2) (.int .i64 t177)) (fun _ hk => hk.2) (.int .i64 t178)) (fun _ hk => hk.2) (.slice Ao34 t179.length co34)) (fun _ hk => hk.2) (.slice Ao35 t182.length co35)) (fun _ hk => hk.2) (.slice Ao36 t185.length co36)) (fun _ hk => hk.2) (.slice Ao37 t188.length co37)) (fun _ h_ => h_.1))) (Kd.R_base ho0) hb); have n1_ := Aside0.mk (Kd.R_elder' (by (with_reducible repeat (first | apply Kd.R_alloc | apply Kd.R_drewN | apply Kd.R_drew)); exact (Kd.R_mono (Kd.R_far (p := ⟨gb192, 12, none⟩) (Kd.R_far (p := ⟨gb192, 11, none⟩) (Kd.R_far (p := ⟨gb192, 10, none⟩) (Kd.R_far (p := ⟨gb192, 9, none⟩) (Kd.R_far (p := ⟨gb192, 8, none⟩) (Kd.R_far (p := ⟨gb192, 7, none⟩) (Kd.R_far (p := ⟨gb192, 6, none⟩) (Kd.R_far (p := ⟨gb192, 5, none⟩) (Kd.R_far (p := ⟨gb192, 4, none⟩) (Kd.R_far (p := ⟨gb192, 3, none⟩) (Kd.R_far (p := ⟨gb192, 2, none⟩) (Kd.R_far (p := ⟨gb192, 1, none⟩) (Kd.R_far (p := ⟨gb192, 0, none⟩) (Kd.R_types HO156.out BK192.out (by decide)) (fun _ hk => hk.2) (.int .i64 t170)) (fun _ hk => hk.2) (.bool t171)) (fun _ hk => hk.2) (.int .i64 t172)) (fun _ hk => hk.2) (.bool t173)) (fun _ hk => hk.2) (.bool t174)) (fun _ hk => hk.2) (.bool t175)) (fun _ hk => hk.2) (.bool t176)) (fun _ hk => hk.2) (.int .i64 t177)) (fun _ hk => hk.2) (.int .i64 t178)) (fun _ hk => hk.2) (.slice Ao34 t179.length co34)) (fun _ hk => hk.2) (.slice Ao35 t182.length co35)) (fun _ hk => hk.2) (.slice Ao36 t185.length co36)) (fun _ hk => hk.2) (.slice Ao37 t188.length co37)) (fun _ h_ => h_.1))) (Kd.R_base ho0) hb); have n2_ := Aside0.mk (Kd.R_mono (Kd.R_told (Kd.R_told (Kd.R_told (Kd.R_old (by (with_reducible repeat (first | apply Kd.R_alloc | apply Kd.R_drewN | apply Kd.R_drew)); exact (Kd.R_mono (Kd.R_far (p := ⟨gb192, 12, none⟩) (Kd.R_far (p := ⟨gb192, 11, none⟩) (Kd.R_far (p := ⟨gb192, 10, none⟩) (Kd.R_far (p := ⟨gb192, 9, none⟩) (Kd.R_far (p := ⟨gb192, 8, none⟩) (Kd.R_far (p := ⟨gb192, 7, none⟩) (Kd.R_far (p := ⟨gb192, 6, none⟩) (Kd.R_far (p := ⟨gb192, 5, none⟩) (Kd.R_far (p := ⟨gb192, 4, none⟩) (Kd.R_far (p := ⟨gb192, 3, none⟩) (Kd.R_far (p := ⟨gb192, 2, none⟩) (Kd.R_far (p := ⟨gb192, 1, none⟩) (Kd.R_far (p := ⟨gb192, 0, none⟩) (Kd.R_types HO159.out BK192.out (by decide)) (fun _ hk => hk.2) (.int .i64 t170)) (fun _ hk => hk.2) (.bool t171)) (fun _ hk => hk.2) (.int .i64 t172)) (fun _ hk => hk.2) (.bool t173)) (fun _ hk => hk.2) (.bool t174)) (fun _ hk => hk.2) (.bool t175)) (fun _ hk => hk.2) (.bool t176)) (fun _ hk => hk.2) (.int .i64 t177)) (fun _ hk => hk.2) (.int .i64 t178)) (fun _ hk => hk.2) (.slice Ao34 t179.length co34)) (fun _ hk => hk.2) (.slice Ao35 t182.length co35)) (fun _ hk => hk.2) (.slice Ao36 t185.length co36)) (fun _ hk => hk.2) (.slice Ao37 t188.length co37)) (fun _ h_ => h_.1))) hb) (Kd.R_base ho1)) (Kd.R_base ho2)) (Kd.R_base ho3)) (fun _ h_ => h_.1)); have n3_ := Aside0.mk (Kd.R_mono (Kd.R_told (Kd.R_told (Kd.R_told (Kd.R_old (by (with_reducible repeat (first | apply Kd.R_alloc | apply Kd.R_drewN | apply Kd.R_drew)); exact (Kd.R_mono (Kd.R_far (p := ⟨gb192, 12, none⟩) (Kd.R_far (p := ⟨gb192, 11, none⟩) (Kd.R_far (p := ⟨gb192, 10, none⟩) (Kd.R_far (p := ⟨gb192, 9, none⟩) (Kd.R_far (p := ⟨gb192, 8, none⟩) (Kd.R_far (p := ⟨gb192, 7, none⟩) (Kd.R_far (p := ⟨gb192, 6, none⟩) (Kd.R_far (p := ⟨gb192, 5, none⟩) (Kd.R_far (p := ⟨gb192, 4, none⟩) (Kd.R_far (p := ⟨gb192, 3, none⟩) (Kd.R_far (p := ⟨gb192, 2, none⟩) (Kd.R_far (p := ⟨gb192, 1, none⟩) (Kd.R_far (p := ⟨gb192, 0, none⟩) (Kd.R_types HO162.out BK192.out (by decide)) (fun _ hk => hk.2) (.int .i64 t170)) (fun _ hk => hk.2) (.bool t171)) (fun _ hk => hk.2) (.int .i64 t172)) (fun _ hk => hk.2) (.bool t173)) (fun _ hk => hk.2) (.bool t174)) (fun _ hk => hk.2) (.bool t175)) (fun _ hk => hk.2) (.bool t176)) (fun _ hk => hk.2) (.int .i64 t177)) (fun _ hk => hk.2) (.int .i64 t178)) (fun _ hk => hk.2) (.slice Ao34 t179.length co34)) (fun _ hk => hk.2) (.slice Ao35 t182.length co35)) (fun _ hk => hk.2) (.slice Ao36 t185.length co36)) (fun _ hk => hk.2) (.slice Ao37 t188.length co37)) (fun _ h_ => h_.1))) hb) (Kd.R_base ho1)) (Kd.R_base ho2)) (Kd.R_base ho3)) (fun _ h_ => h_.1)); have n4_ := Aside0.mk (Kd.R_mono (Kd.R_told (Kd.R_told (Kd.R_told (Kd.R_old (by (with_reducible repeat (first | apply Kd.R_alloc | apply Kd.R_drewN | apply Kd.R_drew)); exact (Kd.R_mono (Kd.R_far (p := ⟨gb192, 12, none⟩) (Kd.R_far (p := ⟨gb192, 11, none⟩) (Kd.R_far (p := ⟨gb192, 10, none⟩) (Kd.R_far (p := ⟨gb192, 9, none⟩) (Kd.R_far (p := ⟨gb192, 8, none⟩) (Kd.R_far (p := ⟨gb192, 7, none⟩) (Kd.R_far (p := ⟨gb192, 6, none⟩) (Kd.R_far (p := ⟨gb192, 5, none⟩) (Kd.R_far (p := ⟨gb192, 4, none⟩) (Kd.R_far (p := ⟨gb192, 3, none⟩) (Kd.R_far (p := ⟨gb192, 2, none⟩) (Kd.R_far (p := ⟨gb192, 1, none⟩) (Kd.R_far (p := ⟨gb192, 0, none⟩) (Kd.R_types HO165.out BK192.out (by decide)) (fun _ hk => hk.2) (.int .i64 t170)) (fun _ hk => hk.2) (.bool t171)) (fun _ hk => hk.2) (.int .i64 t172)) (fun _ hk => hk.2) (.bool t173)) (fun _ hk => hk.2) (.bool t174)) (fun _ hk => hk.2) (.bool t175)) (fun _ hk => hk.2) (.bool t176)) (fun _ hk => hk.2) (.int .i64 t177)) (fun _ hk => hk.2) (.int .i64 t178)) (fun _ hk => hk.2) (.slice Ao34 t179.length co34)) (fun _ hk => hk.2) (.slice Ao35 t182.length co35)) (fun _ hk => hk.2) (.slice Ao36 t185.length co36)) (fun _ hk => hk.2) (.slice Ao37 t188.length co37)) (fun _ h_ => h_.1))) hb) (Kd.R_base ho1)) (Kd.R_base ho2)) (Kd.R_base ho3)) (fun _ h_ => h_.1)); have n5_ := Aside0.mk (Kd.R_elder' (by (with_reducible repeat (first | apply Kd.R_alloc | apply Kd.R_drewN | apply Kd.R_drew)); exact (Kd.R_mono (Kd.R_far (p := ⟨gb192, 12, none⟩) (Kd.R_far (p := ⟨gb192, 11, none⟩) (Kd.R_far (p := ⟨gb192, 10, none⟩) (Kd.R_far (p := ⟨gb192, 9, none⟩) (Kd.R_far (p := ⟨gb192, 8, none⟩) (Kd.R_far (p := ⟨gb192, 7, none⟩) (Kd.R_far (p := ⟨gb192, 6, none⟩) (Kd.R_far (p := ⟨gb192, 5, none⟩) (Kd.R_far (p := ⟨gb192, 4, none⟩) (Kd.R_far (p := ⟨gb192, 3, none⟩) (Kd.R_far (p := ⟨gb192, 2, none⟩) (Kd.R_far (p := ⟨gb192, 1, none⟩) (Kd.R_far (p := ⟨gb192, 0, none⟩) (Kd.R_types HO181.out BK192.out (by decide)) (fun _ hk => hk.2) (.int .i64 t170)) (fun _ hk => hk.2) (.bool t171)) (fun _ hk => hk.2) (.int .i64 t172)) (fun _ hk => hk.2) (.bool t173)) (fun _ hk => hk.2) (.bool t174)) (fun _ hk => hk.2) (.bool t175)) (fun _ hk => hk.2) (.bool t176)) (fun _ hk => hk.2) (.int .i64 t177)) (fun _ hk => hk.2) (.int .i64 t178)) (fun _ hk => hk.2) (.slice Ao34 t179.length co34)) (fun _ hk => hk.2) (.slice Ao35 t182.length co35)) (fun _ hk => hk.2) (.slice Ao36 t185.length co36)) (fun _ hk => hk.2) (.slice Ao37 t188.length co37)) (fun _ h_ => h_.1))) (Kd.R_base ho0) hb); have n6_ := Aside0.mk (Kd.R_mono (Kd.R_told (Kd.R_told (Kd.R_told (Kd.R_old (by (with_reducible repeat (first | apply Kd.R_alloc | apply Kd.R_drewN | apply Kd.R_drew)); exact (Kd.R_mono (Kd.R_far (p := ⟨gb192, 12, none⟩) (Kd.R_far (p := ⟨gb192, 11, none⟩) (Kd.R_far (p := ⟨gb192, 10, none⟩) (Kd.R_far (p := ⟨gb192, 9, none⟩) (Kd.R_far (p := ⟨gb192, 8, none⟩) (Kd.R_far (p := ⟨gb192, 7, none⟩) (Kd.R_far (p := ⟨gb192, 6, none⟩) (Kd.R_far (p := ⟨gb192, 5, none⟩) (Kd.R_far (p := ⟨gb192, 4, none⟩) (Kd.R_far (p := ⟨gb192, 3, none⟩) (Kd.R_far (p := ⟨gb192, 2, none⟩) (Kd.R_far (p := ⟨gb192, 1, none⟩) (Kd.R_far (p := ⟨gb192, 0, none⟩) (Kd.R_types HO184.out BK192.out (by decide)) (fun _ hk => hk.2) (.int .i64 t170)) (fun _ hk => hk.2) (.bool t171)) (fun _ hk => hk.2) (.int .i64 t172)) (fun _ hk => hk.2) (.bool t173)) (fun _ hk => hk.2) (.bool t174)) (fun _ hk => hk.2) (.bool t175)) (fun _ hk => hk.2) (.bool t176)) (fun _ hk => hk.2) (.int .i64 t177)) (fun _ hk => hk.2) (.int .i64 t178)) (fun _ hk => hk.2) (.slice Ao34 t179.length co34)) (fun _ hk => hk.2) (.slice Ao35 t182.length co35)) (fun _ hk => hk.2) (.slice Ao36 t185.length co36)) (fun _ hk => hk.2) (.slice Ao37 t188.length co37)) (fun _ h_ => h_.1))) hb) (Kd.R_base ho1)) (Kd.R_base ho2)) (Kd.R_base ho3)) (fun _ h_ => h_.1)); have n7_ := Aside0.mk (Kd.R_mono (Kd.R_told (Kd.R_told (Kd.R_told (Kd.R_old (by (with_reducible repeat (first | apply Kd.R_alloc | apply Kd.R_drewN | apply Kd.R_drew)); exact (Kd.R_mono (Kd.R_far (p := ⟨gb192, 12, none⟩) (Kd.R_far (p := ⟨gb192, 11, none⟩) (Kd.R_far (p := ⟨gb192, 10, none⟩) (Kd.R_far (p := ⟨gb192, 9, none⟩) (Kd.R_far (p := ⟨gb192, 8, none⟩) (Kd.R_far (p := ⟨gb192, 7, none⟩) (Kd.R_far (p := ⟨gb192, 6, none⟩) (Kd.R_far (p := ⟨gb192, 5, none⟩) (Kd.R_far (p := ⟨gb192, 4, none⟩) (Kd.R_far (p := ⟨gb192, 3, none⟩) (Kd.R_far (p := ⟨gb192, 2, none⟩) (Kd.R_far (p := ⟨gb192, 1, none⟩) (Kd.R_far (p := ⟨gb192, 0, none⟩) (Kd.R_types HO187.out BK192.out (by decide)) (fun _ hk => hk.2) (.int .i64 t170)) (fun _ hk => hk.2) (.bool t171)) (fun _ hk => hk.2) (.int .i64 t172)) (fun _ hk => hk.2) (.bool t173)) (fun _ hk => hk.2) (.bool t174)) (fun _ hk => hk.2) (.bool t175)) (fun _ hk => hk.2) (.bool t176)) (fun _ hk => hk.2) (.int .i64 t177)) (fun _ hk => hk.2) (.int .i64 t178)) (fun _ hk => hk.2) (.slice Ao34 t179.length co34)) (fun _ hk => hk.2) (.slice Ao35 t182.length co35)) (fun _ hk => hk.2) (.slice Ao36 t185.length co36)) (fun _ hk => hk.2) (.slice Ao37 t188.length co37)) (fun _ h_ => h_.1))) hb) (Kd.R_base ho1)) (Kd.R_base ho2)) (Kd.R_base ho3)) (fun _ h_ => h_.1)); have n8_ := Aside0.mk (Kd.R_mono (Kd.R_told (Kd.R_told (Kd.R_told (Kd.R_old (by (with_reducible repeat (first | apply Kd.R_alloc | apply Kd.R_drewN | apply Kd.R_drew)); exact (Kd.R_mono (Kd.R_far (p := ⟨gb192, 12, none⟩) (Kd.R_far (p := ⟨gb192, 11, none⟩) (Kd.R_far (p := ⟨gb192, 10, none⟩) (Kd.R_far (p := ⟨gb192, 9, none⟩) (Kd.R_far (p := ⟨gb192, 8, none⟩) (Kd.R_far (p := ⟨gb192, 7, none⟩) (Kd.R_far (p := ⟨gb192, 6, none⟩) (Kd.R_far (p := ⟨gb192, 5, none⟩) (Kd.R_far (p := ⟨gb192, 4, none⟩) (Kd.R_far (p := ⟨gb192, 3, none⟩) (Kd.R_far (p := ⟨gb192, 2, none⟩) (Kd.R_far (p := ⟨gb192, 1, none⟩) (Kd.R_far (p := ⟨gb192, 0, none⟩) (Kd.R_types HO190.out BK192.out (by decide)) (fun _ hk => hk.2) (.int .i64 t170)) (fun _ hk => hk.2) (.bool t171)) (fun _ hk => hk.2) (.int .i64 t172)) (fun _ hk => hk.2) (.bool t173)) (fun _ hk => hk.2) (.bool t174)) (fun _ hk => hk.2) (.bool t175)) (fun _ hk => hk.2) (.bool t176)) (fun _ hk => hk.2) (.int .i64 t177)) (fun _ hk => hk.2) (.int .i64 t178)) (fun _ hk => hk.2) (.slice Ao34 t179.length co34)) (fun _ hk => hk.2) (.slice Ao35 t182.length co35)) (fun _ hk => hk.2) (.slice Ao36 t185.length co36)) (fun _ hk => hk.2) (.slice Ao37 t188.length co37)) (fun _ h_ => h_.1))) hb) (Kd.R_base ho1)) (Kd.R_base ho2)) (Kd.R_base ho3)) (fun _ h_ => h_.1)); have n9_ := Aside0.mk (Kd.R_lower (Kd.R_new' (Kd.R_new' (Kd.R_new' ho0 (Kd.R_lt (by (with_reducible repeat (first | apply Kd.R_alloc | apply Kd.R_drewN | apply Kd.R_drew)); exact (Kd.R_mono (Kd.R_far (p := ⟨gb192, 12, none⟩) (Kd.R_far (p := ⟨gb192, 11, none⟩) (Kd.R_far (p := ⟨gb192, 10, none⟩) (Kd.R_far (p := ⟨gb192, 9, none⟩) (Kd.R_far (p := ⟨gb192, 8, none⟩) (Kd.R_far (p := ⟨gb192, 7, none⟩) (Kd.R_far (p := ⟨gb192, 6, none⟩) (Kd.R_far (p := ⟨gb192, 5, none⟩) (Kd.R_far (p := ⟨gb192, 4, none⟩) (Kd.R_far (p := ⟨gb192, 3, none⟩) (Kd.R_far (p := ⟨gb192, 2, none⟩) (Kd.R_far (p := ⟨gb192, 1, none⟩) (Kd.R_far (p := ⟨gb192, 0, none⟩) (Kd.R_types HO141.out BK192.out (by decide)) (fun _ hk => hk.2) (.int .i64 t170)) (fun _ hk => hk.2) (.bool t171)) (fun _ hk => hk.2) (.int .i64 t172)) (fun _ hk => hk.2) (.bool t173)) (fun _ hk => hk.2) (.bool t174)) (fun _ hk => hk.2) (.bool t175)) (fun _ hk => hk.2) (.bool t176)) (fun _ hk => hk.2) (.int .i64 t177)) (fun _ hk => hk.2) (.int .i64 t178)) (fun _ hk => hk.2) (.slice Ao34 t179.length co34)) (fun _ hk => hk.2) (.slice Ao35 t182.length co35)) (fun _ hk => hk.2) (.slice Ao36 t185.length co36)) (fun _ hk => hk.2) (.slice Ao37 t188.length co37)) (fun _ h_ => h_.1))))) (Kd.R_lt (by (with_reducible repeat (first | apply Kd.R_alloc | apply Kd.R_drewN | apply Kd.R_drew)); exact (Kd.R_mono (Kd.R_far (p := ⟨gb192, 12, none⟩) (Kd.R_far (p := ⟨gb192, 11, none⟩) (Kd.R_far (p := ⟨gb192, 10, none⟩) (Kd.R_far (p := ⟨gb192, 9, none⟩) (Kd.R_far (p := ⟨gb192, 8, none⟩) (Kd.R_far (p := ⟨gb192, 7, none⟩) (Kd.R_far (p := ⟨gb192, 6, none⟩) (Kd.R_far (p := ⟨gb192, 5, none⟩) (Kd.R_far (p := ⟨gb192, 4, none⟩) (Kd.R_far (p := ⟨gb192, 3, none⟩) (Kd.R_far (p := ⟨gb192, 2, none⟩) (Kd.R_far (p := ⟨gb192, 1, none⟩) (Kd.R_far (p := ⟨gb192, 0, none⟩) (Kd.R_types HO156.out BK192.out (by decide)) (fun _ hk => hk.2) (.int .i64 t170)) (fun _ hk => hk.2) (.bool t171)) (fun _ hk => hk.2) (.int .i64 t172)) (fun _ hk => hk.2) (.bool t173)) (fun _ hk => hk.2) (.bool t174)) (fun _ hk => hk.2) (.bool t175)) (fun _ hk => hk.2) (.bool t176)) (fun _ hk => hk.2) (.int .i64 t177)) (fun _ hk => hk.2) (.int .i64 t178)) (fun _ hk => hk.2) (.slice Ao34 t179.length co34)) (fun _ hk => hk.2) (.slice Ao35 t182.length co35)) (fun _ hk => hk.2) (.slice Ao36 t185.length co36)) (fun _ hk => hk.2) (.slice Ao37 t188.length co37)) (fun _ h_ => h_.1))))) (Kd.R_lt (by (with_reducible repeat (first | apply Kd.R_alloc | apply Kd.R_drewN | apply Kd.R_drew)); exact (Kd.R_mono (Kd.R_far (p := ⟨gb192, 12, none⟩) (Kd.R_far (p := ⟨gb192, 11, none⟩) (Kd.R_far (p := ⟨gb192, 10, none⟩) (Kd.R_far (p := ⟨gb192, 9, none⟩) (Kd.R_far (p := ⟨gb192, 8, none⟩) (Kd.R_far (p := ⟨gb192, 7, none⟩) (Kd.R_far (p := ⟨gb192, 6, none⟩) (Kd.R_far (p := ⟨gb192, 5, none⟩) (Kd.R_far (p := ⟨gb192, 4, none⟩) (Kd.R_far (p := ⟨gb192, 3, none⟩) (Kd.R_far (p := ⟨gb192, 2, none⟩) (Kd.R_far (p := ⟨gb192, 1, none⟩) (Kd.R_far (p := ⟨gb192, 0, none⟩) (Kd.R_types HO181.out BK192.out (by decide)) (fun _ hk => hk.2) (.int .i64 t170)) (fun _ hk => hk.2) (.bool t171)) (fun _ hk => hk.2) (.int .i64 t172)) (fun _ hk => hk.2) (.bool t173)) (fun _ hk => hk.2) (.bool t174)) (fun _ hk => hk.2) (.bool t175)) (fun _ hk => hk.2) (.bool t176)) (fun _ hk => hk.2) (.int .i64 t177)) (fun _ hk => hk.2) (.int .i64 t178)) (fun _ hk => hk.2) (.slice Ao34 t179.length co34)) (fun _ hk => hk.2) (.slice Ao35 t182.length co35)) (fun _ hk => hk.2) (.slice Ao36 t185.length co36)) (fun _ hk => hk.2) (.slice Ao37 t188.length co37)) (fun _ h_ => h_.1))))) (below_size (by repeat (first | (with_reducible first | exact HB.out | apply below_alloc | apply pw_below_drewN | apply below_drew1 | refine below_set ?_ GE142.out | refine below_set ?_ GE167.out | refine below_set ?_ GE192.out) | exact HB.out)))); have n10_ := Aside0.mk (Kd.R_lower (Kd.R_new' (Kd.R_new' (Kd.R_new' (Kd.R_new' (Kd.R_new' (Kd.R_new' ho1 (Kd.R_lt (by (with_reducible repeat (first | apply Kd.R_alloc | apply Kd.R_drewN | apply Kd.R_drew)); exact (Kd.R_mono (Kd.R_far (p := ⟨gb192, 12, none⟩) (Kd.R_far (p := ⟨gb192, 11, none⟩) (Kd.R_far (p := ⟨gb192, 10, none⟩) (Kd.R_far (p := ⟨gb192, 9, none⟩) (Kd.R_far (p := ⟨gb192, 8, none⟩) (Kd.R_far (p := ⟨gb192, 7, none⟩) (Kd.R_far (p := ⟨gb192, 6, none⟩) (Kd.R_far (p := ⟨gb192, 5, none⟩) (Kd.R_far (p := ⟨gb192, 4, none⟩) (Kd.R_far (p := ⟨gb192, 3, none⟩) (Kd.R_far (p := ⟨gb192, 2, none⟩) (Kd.R_far (p := ⟨gb192, 1, none⟩) (Kd.R_far (p := ⟨gb192, 0, none⟩) (Kd.R_types HO159.out BK192.out (by decide)) (fun _ hk => hk.2) (.int .i64 t170)) (fun _ hk => hk.2) (.bool t171)) (fun _ hk => hk.2) (.int .i64 t172)) (fun _ hk => hk.2) (.bool t173)) (fun _ hk => hk.2) (.bool t174)) (fun _ hk => hk.2) (.bool t175)) (fun _ hk => hk.2) (.bool t176)) (fun _ hk => hk.2) (.int .i64 t177)) (fun _ hk => hk.2) (.int .i64 t178)) (fun _ hk => hk.2) (.slice Ao34 t179.length co34)) (fun _ hk => hk.2) (.slice Ao35 t182.length co35)) (fun _ hk => hk.2) (.slice Ao36 t185.length co36)) (fun _ hk => hk.2) (.slice Ao37 t188.length co37)) (fun _ h_ => h_.1))))) (Kd.R_lt (by (with_reducible repeat (first | apply Kd.R_alloc | apply Kd.R_drewN | apply Kd.R_drew)); exact (Kd.R_mono (Kd.R_far (p := ⟨gb192, 12, none⟩) (Kd.R_far (p := ⟨gb192, 11, none⟩) (Kd.R_far (p := ⟨gb192, 10, none⟩) (Kd.R_far (p := ⟨gb192, 9, none⟩) (Kd.R_far (p := ⟨gb192, 8, none⟩) (Kd.R_far (p := ⟨gb192, 7, none⟩) (Kd.R_far (p := ⟨gb192, 6, none⟩) (Kd.R_far (p := ⟨gb192, 5, none⟩) (Kd.R_far (p := ⟨gb192, 4, none⟩) (Kd.R_far (p := ⟨gb192, 3, none⟩) (Kd.R_far (p := ⟨gb192, 2, none⟩) (Kd.R_far (p := ⟨gb192, 1, none⟩) (Kd.R_far (p := ⟨gb192, 0, none⟩) (Kd.R_types HO162.out BK192.out (by decide)) (fun _ hk => hk.2) (.int .i64 t170)) (fun _ hk => hk.2) (.bool t171)) (fun _ hk => hk.2) (.int .i64 t172)) (fun _ hk => hk.2) (.bool t173)) (fun _ hk => hk.2) (.bool t174)) (fun _ hk => hk.2) (.bool t175)) (fun _ hk => hk.2) (.bool t176)) (fun _ hk => hk.2) (.int .i64 t177)) (fun _ hk => hk.2) (.int .i64 t178)) (fun _ hk => hk.2) (.slice Ao34 t179.length co34)) (fun _ hk => hk.2) (.slice Ao35 t182.length co35)) (fun _ hk => hk.2) (.slice Ao36 t185.length co36)) (fun _ hk => hk.2) (.slice Ao37 t188.length co37)) (fun _ h_ => h_.1))))) (Kd.R_lt (by (with_reducible repeat (first | apply Kd.R_alloc | apply Kd.R_drewN | apply Kd.R_drew)); exact (Kd.R_mono (Kd.R_far (p := ⟨gb192, 12, none⟩) (Kd.R_far (p := ⟨gb192, 11, none⟩) (Kd.R_far (p := ⟨gb192, 10, none⟩) (Kd.R_far (p := ⟨gb192, 9, none⟩) (Kd.R_far (p := ⟨gb192, 8, none⟩) (Kd.R_far (p := ⟨gb192, 7, none⟩) (Kd.R_far (p := ⟨gb192, 6, none⟩) (Kd.R_far (p := ⟨gb192, 5, none⟩) (Kd.R_far (p := ⟨gb192, 4, none⟩) (Kd.R_far (p := ⟨gb192, 3, none⟩) (Kd.R_far (p := ⟨gb192, 2, none⟩) (Kd.R_far (p := ⟨gb192, 1, none⟩) (Kd.R_far (p := ⟨gb192, 0, none⟩) (Kd.R_types HO165.out BK192.out (by decide)) (fun _ hk => hk.2) (.int .i64 t170)) (fun _ hk => hk.2) (.bool t171)) (fun _ hk => hk.2) (.int .i64 t172)) (fun _ hk => hk.2) (.bool t173)) (fun _ hk => hk.2) (.bool t174)) (fun _ hk => hk.2) (.bool t175)) (fun _ hk => hk.2) (.bool t176)) (fun _ hk => hk.2) (.int .i64 t177)) (fun _ hk => hk.2) (.int .i64 t178)) (fun _ hk => hk.2) (.slice Ao34 t179.length co34)) (fun _ hk => hk.2) (.slice Ao35 t182.length co35)) (fun _ hk => hk.2) (.slice Ao36 t185.length co36)) (fun _ hk => hk.2) (.slice Ao37 t188.length co37)) (fun _ h_ => h_.1))))) (Kd.R_lt (by (with_reducible repeat (first | apply Kd.R_alloc | apply Kd.R_drewN | apply Kd.R_drew)); exact (Kd.R_mono (Kd.R_far (p := ⟨gb192, 12, none⟩) (Kd.R_far (p := ⟨gb192, 11, none⟩) (Kd.R_far (p := ⟨gb192, 10, none⟩) (Kd.R_far (p := ⟨gb192, 9, none⟩) (Kd.R_far (p := ⟨gb192, 8, none⟩) (Kd.R_far (p := ⟨gb192, 7, none⟩) (Kd.R_far (p := ⟨gb192, 6, none⟩) (Kd.R_far (p := ⟨gb192, 5, none⟩) (Kd.R_far (p := ⟨gb192, 4, none⟩) (Kd.R_far (p := ⟨gb192, 3, none⟩) (Kd.R_far (p := ⟨gb192, 2, none⟩) (Kd.R_far (p := ⟨gb192, 1, none⟩) (Kd.R_far (p := ⟨gb192, 0, none⟩) (Kd.R_types HO184.out BK192.out (by decide)) (fun _ hk => hk.2) (.int .i64 t170)) (fun _ hk => hk.2) (.bool t171)) (fun _ hk => hk.2) (.int .i64 t172)) (fun _ hk => hk.2) (.bool t173)) (fun _ hk => hk.2) (.bool t174)) (fun _ hk => hk.2) (.bool t175)) (fun _ hk => hk.2) (.bool t176)) (fun _ hk => hk.2) (.int .i64 t177)) (fun _ hk => hk.2) (.int .i64 t178)) (fun _ hk => hk.2) (.slice Ao34 t179.length co34)) (fun _ hk => hk.2) (.slice Ao35 t182.length co35)) (fun _ hk => hk.2) (.slice Ao36 t185.length co36)) (fun _ hk => hk.2) (.slice Ao37 t188.length co37)) (fun _ h_ => h_.1))))) (Kd.R_lt (by (with_reducible repeat (first | apply Kd.R_alloc | apply Kd.R_drewN | apply Kd.R_drew)); exact (Kd.R_mono (Kd.R_far (p := ⟨gb192, 12, none⟩) (Kd.R_far (p := ⟨gb192, 11, none⟩) (Kd.R_far (p := ⟨gb192, 10, none⟩) (Kd.R_far (p := ⟨gb192, 9, none⟩) (Kd.R_far (p := ⟨gb192, 8, none⟩) (Kd.R_far (p := ⟨gb192, 7, none⟩) (Kd.R_far (p := ⟨gb192, 6, none⟩) (Kd.R_far (p := ⟨gb192, 5, none⟩) (Kd.R_far (p := ⟨gb192, 4, none⟩) (Kd.R_far (p := ⟨gb192, 3, none⟩) (Kd.R_far (p := ⟨gb192, 2, none⟩) (Kd.R_far (p := ⟨gb192, 1, none⟩) (Kd.R_far (p := ⟨gb192, 0, none⟩) (Kd.R_types HO187.out BK192.out (by decide)) (fun _ hk => hk.2) (.int .i64 t170)) (fun _ hk => hk.2) (.bool t171)) (fun _ hk => hk.2) (.int .i64 t172)) (fun _ hk => hk.2) (.bool t173)) (fun _ hk => hk.2) (.bool t174)) (fun _ hk => hk.2) (.bool t175)) (fun _ hk => hk.2) (.bool t176)) (fun _ hk => hk.2) (.int .i64 t177)) (fun _ hk => hk.2) (.int .i64 t178)) (fun _ hk => hk.2) (.slice Ao34 t179.length co34)) (fun _ hk => hk.2) (.slice Ao35 t182.length co35)) (fun _ hk => hk.2) (.slice Ao36 t185.length co36)) (fun _ hk => hk.2) (.slice Ao37 t188.length co37)) (fun _ h_ => h_.1))))) (Kd.R_lt (by (with_reducible repeat (first | apply Kd.R_alloc | apply Kd.R_drewN | apply Kd.R_drew)); exact (Kd.R_mono (Kd.R_far (p := ⟨gb192, 12, none⟩) (Kd.R_far (p := ⟨gb192, 11, none⟩) (Kd.R_far (p := ⟨gb192, 10, none⟩) (Kd.R_far (p := ⟨gb192, 9, none⟩) (Kd.R_far (p := ⟨gb192, 8, none⟩) (Kd.R_far (p := ⟨gb192, 7, none⟩) (Kd.R_far (p := ⟨gb192, 6, none⟩) (Kd.R_far (p := ⟨gb192, 5, none⟩) (Kd.R_far (p := ⟨gb192, 4, none⟩) (Kd.R_far (p := ⟨gb192, 3, none⟩) (Kd.R_far (p := ⟨gb192, 2, none⟩) (Kd.R_far (p := ⟨gb192, 1, none⟩) (Kd.R_far (p := ⟨gb192, 0, none⟩) (Kd.R_types HO190.out BK192.out (by decide)) (fun _ hk => hk.2) (.int .i64 t170)) (fun _ hk => hk.2) (.bool t171)) (fun _ hk => hk.2) (.int .i64 t172)) (fun _ hk => hk.2) (.bool t173)) (fun _ hk => hk.2) (.bool t174)) (fun _ hk => hk.2) (.bool t175)) (fun _ hk => hk.2) (.bool t176)) (fun _ hk => hk.2) (.int .i64 t177)) (fun _ hk => hk.2) (.int .i64 t178)) (fun _ hk => hk.2) (.slice Ao34 t179.length co34)) (fun _ hk => hk.2) (.slice Ao35 t182.length co35)) (fun _ hk => hk.2) (.slice Ao36 t185.length co36)) (fun _ hk => hk.2) (.slice Ao37 t188.length co37)) (fun _ h_ => h_.1))))) (below_size (by repeat (first | (with_reducible first | exact HB.out | apply below_alloc | apply pw_below_drewN | apply below_drew1 | refine below_set ?_ GE142.out | refine below_set ?_ GE167.out | refine below_set ?_ GE192.out) | exact HB.out)))); have n11_ := Aside0.mk (Kd.R_lower (Kd.R_new' (Kd.R_new' (Kd.R_new' (Kd.R_new' (Kd.R_new' (Kd.R_new' ho2 (Kd.R_lt (by (with_reducible repeat (first | apply Kd.R_alloc | apply Kd.R_drewN | apply Kd.R_drew)); exact (Kd.R_mono (Kd.R_far (p := ⟨gb192, 12, none⟩) (Kd.R_far (p := ⟨gb192, 11, none⟩) (Kd.R_far (p := ⟨gb192, 10, none⟩) (Kd.R_far (p := ⟨gb192, 9, none⟩) (Kd.R_far (p := ⟨gb192, 8, none⟩) (Kd.R_far (p := ⟨gb192, 7, none⟩) (Kd.R_far (p := ⟨gb192, 6, none⟩) (Kd.R_far (p := ⟨gb192, 5, none⟩) (Kd.R_far (p := ⟨gb192, 4, none⟩) (Kd.R_far (p := ⟨gb192, 3, none⟩) (Kd.R_far (p := ⟨gb192, 2, none⟩) (Kd.R_far (p := ⟨gb192, 1, none⟩) (Kd.R_far (p := ⟨gb192, 0, none⟩) (Kd.R_types HO159.out BK192.out (by decide)) (fun _ hk => hk.2) (.int .i64 t170)) (fun _ hk => hk.2) (.bool t171)) (fun _ hk => hk.2) (.int .i64 t172)) (fun _ hk => hk.2) (.bool t173)) (fun _ hk => hk.2) (.bool t174)) (fun _ hk => hk.2) (.bool t175)) (fun _ hk => hk.2) (.bool t176)) (fun _ hk => hk.2) (.int .i64 t177)) (fun _ hk => hk.2) (.int .i64 t178)) (fun _ hk => hk.2) (.slice Ao34 t179.length co34)) (fun _ hk => hk.2) (.slice Ao35 t182.length co35)) (fun _ hk => hk.2) (.slice Ao36 t185.length co36)) (fun _ hk => hk.2) (.slice Ao37 t188.length co37)) (fun _ h_ => h_.1))))) (Kd.R_lt (by (with_reducible repeat (first | apply Kd.R_alloc | apply Kd.R_drewN | apply Kd.R_drew)); exact (Kd.R_mono (Kd.R_far (p := ⟨gb192, 12, none⟩) (Kd.R_far (p := ⟨gb192, 11, none⟩) (Kd.R_far (p := ⟨gb192, 10, none⟩) (Kd.R_far (p := ⟨gb192, 9, none⟩) (Kd.R_far (p := ⟨gb192, 8, none⟩) (Kd.R_far (p := ⟨gb192, 7, none⟩) (Kd.R_far (p := ⟨gb192, 6, none⟩) (Kd.R_far (p := ⟨gb192, 5, none⟩) (Kd.R_far (p := ⟨gb192, 4, none⟩) (Kd.R_far (p := ⟨gb192, 3, none⟩) (Kd.R_far (p := ⟨gb192, 2, none⟩) (Kd.R_far (p := ⟨gb192, 1, none⟩) (Kd.R_far (p := ⟨gb192, 0, none⟩) (Kd.R_types HO162.out BK192.out (by decide)) (fun _ hk => hk.2) (.int .i64 t170)) (fun _ hk => hk.2) (.bool t171)) (fun _ hk => hk.2) (.int .i64 t172)) (fun _ hk => hk.2) (.bool t173)) (fun _ hk => hk.2) (.bool t174)) (fun _ hk => hk.2) (.bool t175)) (fun _ hk => hk.2) (.bool t176)) (fun _ hk => hk.2) (.int .i64 t177)) (fun _ hk => hk.2) (.int .i64 t178)) (fun _ hk => hk.2) (.slice Ao34 t179.length co34)) (fun _ hk => hk.2) (.slice Ao35 t182.length co35)) (fun _ hk => hk.2) (.slice Ao36 t185.length co36)) (fun _ hk => hk.2) (.slice Ao37 t188.length co37)) (fun _ h_ => h_.1))))) (Kd.R_lt (by (with_reducible repeat (first | apply Kd.R_alloc | apply Kd.R_drewN | apply Kd.R_drew)); exact (Kd.R_mono (Kd.R_far (p := ⟨gb192, 12, none⟩) (Kd.R_far (p := ⟨gb192, 11, none⟩) (Kd.R_far (p := ⟨gb192, 10, none⟩) (Kd.R_far (p := ⟨gb192, 9, none⟩) (Kd.R_far (p := ⟨gb192, 8, none⟩) (Kd.R_far (p := ⟨gb192, 7, none⟩) (Kd.R_far (p := ⟨gb192, 6, none⟩) (Kd.R_far (p := ⟨gb192, 5, none⟩) (Kd.R_far (p := ⟨gb192, 4, none⟩) (Kd.R_far (p := ⟨gb192, 3, none⟩) (Kd.R_far (p := ⟨gb192, 2, none⟩) (Kd.R_far (p := ⟨gb192, 1, none⟩) (Kd.R_far (p := ⟨gb192, 0, none⟩) (Kd.R_types HO165.out BK192.out (by decide)) (fun _ hk => hk.2) (.int .i64 t170)) (fun _ hk => hk.2) (.bool t171)) (fun _ hk => hk.2) (.int .i64 t172)) (fun _ hk => hk.2) (.bool t173)) (fun _ hk => hk.2) (.bool t174)) (fun _ hk => hk.2) (.bool t175)) (fun _ hk => hk.2) (.bool t176)) (fun _ hk => hk.2) (.int .i64 t177)) (fun _ hk => hk.2) (.int .i64 t178)) (fun _ hk => hk.2) (.slice Ao34 t179.length co34)) (fun _ hk => hk.2) (.slice Ao35 t182.length co35)) (fun _ hk => hk.2) (.slice Ao36 t185.length co36)) (fun _ hk => hk.2) (.slice Ao37 t188.length co37)) (fun _ h_ => h_.1))))) (Kd.R_lt (by (with_reducible repeat (first | apply Kd.R_alloc | apply Kd.R_drewN | apply Kd.R_drew)); exact (Kd.R_mono (Kd.R_far (p := ⟨gb192, 12, none⟩) (Kd.R_far (p := ⟨gb192, 11, none⟩) (Kd.R_far (p := ⟨gb192, 10, none⟩) (Kd.R_far (p := ⟨gb192, 9, none⟩) (Kd.R_far (p := ⟨gb192, 8, none⟩) (Kd.R_far (p := ⟨gb192, 7, none⟩) (Kd.R_far (p := ⟨gb192, 6, none⟩) (Kd.R_far (p := ⟨gb192, 5, none⟩) (Kd.R_far (p := ⟨gb192, 4, none⟩) (Kd.R_far (p := ⟨gb192, 3, none⟩) (Kd.R_far (p := ⟨gb192, 2, none⟩) (Kd.R_far (p := ⟨gb192, 1, none⟩) (Kd.R_far (p := ⟨gb192, 0, none⟩) (Kd.R_types HO184.out BK192.out (by decide)) (fun _ hk => hk.2) (.int .i64 t170)) (fun _ hk => hk.2) (.bool t171)) (fun _ hk => hk.2) (.int .i64 t172)) (fun _ hk => hk.2) (.bool t173)) (fun _ hk => hk.2) (.bool t174)) (fun _ hk => hk.2) (.bool t175)) (fun _ hk => hk.2) (.bool t176)) (fun _ hk => hk.2) (.int .i64 t177)) (fun _ hk => hk.2) (.int .i64 t178)) (fun _ hk => hk.2) (.slice Ao34 t179.length co34)) (fun _ hk => hk.2) (.slice Ao35 t182.length co35)) (fun _ hk => hk.2) (.slice Ao36 t185.length co36)) (fun _ hk => hk.2) (.slice Ao37 t188.length co37)) (fun _ h_ => h_.1))))) (Kd.R_lt (by (with_reducible repeat (first | apply Kd.R_alloc | apply Kd.R_drewN | apply Kd.R_drew)); exact (Kd.R_mono (Kd.R_far (p := ⟨gb192, 12, none⟩) (Kd.R_far (p := ⟨gb192, 11, none⟩) (Kd.R_far (p := ⟨gb192, 10, none⟩) (Kd.R_far (p := ⟨gb192, 9, none⟩) (Kd.R_far (p := ⟨gb192, 8, none⟩) (Kd.R_far (p := ⟨gb192, 7, none⟩) (Kd.R_far (p := ⟨gb192, 6, none⟩) (Kd.R_far (p := ⟨gb192, 5, none⟩) (Kd.R_far (p := ⟨gb192, 4, none⟩) (Kd.R_far (p := ⟨gb192, 3, none⟩) (Kd.R_far (p := ⟨gb192, 2, none⟩) (Kd.R_far (p := ⟨gb192, 1, none⟩) (Kd.R_far (p := ⟨gb192, 0, none⟩) (Kd.R_types HO187.out BK192.out (by decide)) (fun _ hk => hk.2) (.int .i64 t170)) (fun _ hk => hk.2) (.bool t171)) (fun _ hk => hk.2) (.int .i64 t172)) (fun _ hk => hk.2) (.bool t173)) (fun _ hk => hk.2) (.bool t174)) (fun _ hk => hk.2) (.bool t175)) (fun _ hk => hk.2) (.bool t176)) (fun _ hk => hk.2) (.int .i64 t177)) (fun _ hk => hk.2) (.int .i64 t178)) (fun _ hk => hk.2) (.slice Ao34 t179.length co34)) (fun _ hk => hk.2) (.slice Ao35 t182.length co35)) (fun _ hk => hk.2) (.slice Ao36 t185.length co36)) (fun _ hk => hk.2) (.slice Ao37 t188.length co37)) (fun _ h_ => h_.1))))) (Kd.R_lt (by (with_reducible repeat (first | apply Kd.R_alloc | apply Kd.R_drewN | apply Kd.R_drew)); exact (Kd.R_mono (Kd.R_far (p := ⟨gb192, 12, none⟩) (Kd.R_far (p := ⟨gb192, 11, none⟩) (Kd.R_far (p := ⟨gb192, 10, none⟩) (Kd.R_far (p := ⟨gb192, 9, none⟩) (Kd.R_far (p := ⟨gb192, 8, none⟩) (Kd.R_far (p := ⟨gb192, 7, none⟩) (Kd.R_far (p := ⟨gb192, 6, none⟩) (Kd.R_far (p := ⟨gb192, 5, none⟩) (Kd.R_far (p := ⟨gb192, 4, none⟩) (Kd.R_far (p := ⟨gb192, 3, none⟩) (Kd.R_far (p := ⟨gb192, 2, none⟩) (Kd.R_far (p := ⟨gb192, 1, none⟩) (Kd.R_far (p := ⟨gb192, 0, none⟩) (Kd.R_types HO190.out BK192.out (by decide)) (fun _ hk => hk.2) (.int .i64 t170)) (fun _ hk => hk.2) (.bool t171)) (fun _ hk => hk.2) (.int .i64 t172)) (fun _ hk => hk.2) (.bool t173)) (fun _ hk => hk.2) (.bool t174)) (fun _ hk => hk.2) (.bool t175)) (fun _ hk => hk.2) (.bool t176)) (fun _ hk => hk.2) (.int .i64 t177)) (fun _ hk => hk.2) (.int .i64 t178)) (fun _ hk => hk.2) (.slice Ao34 t179.length co34)) (fun _ hk => hk.2) (.slice Ao35 t182.length co35)) (fun _ hk => hk.2) (.slice Ao36 t185.length co36)) (fun _ hk => hk.2) (.slice Ao37 t188.length co37)) (fun _ h_ => h_.1))))) (below_size (by repeat (first | (with_reducible first | exact HB.out | apply below_alloc | apply pw_below_drewN | apply below_drew1 | refine below_set ?_ GE142.out | refine below_set ?_ GE167.out | refine below_set ?_ GE192.out) | exact HB.out)))); have n12_ := Aside0.mk (Kd.R_lower (Kd.R_new' (Kd.R_new' (Kd.R_new' (Kd.R_new' (Kd.R_new' (Kd.R_new' ho3 (Kd.R_lt (by (with_reducible repeat (first | apply Kd.R_alloc | apply Kd.R_drewN | apply Kd.R_drew)); exact (Kd.R_mono (Kd.R_far (p := ⟨gb192, 12, none⟩) (Kd.R_far (p := ⟨gb192, 11, none⟩) (Kd.R_far (p := ⟨gb192, 10, none⟩) (Kd.R_far (p := ⟨gb192, 9, none⟩) (Kd.R_far (p := ⟨gb192, 8, none⟩) (Kd.R_far (p := ⟨gb192, 7, none⟩) (Kd.R_far (p := ⟨gb192, 6, none⟩) (Kd.R_far (p := ⟨gb192, 5, none⟩) (Kd.R_far (p := ⟨gb192, 4, none⟩) (Kd.R_far (p := ⟨gb192, 3, none⟩) (Kd.R_far (p := ⟨gb192, 2, none⟩) (Kd.R_far (p := ⟨gb192, 1, none⟩) (Kd.R_far (p := ⟨gb192, 0, none⟩) (Kd.R_types HO159.out BK192.out (by decide)) (fun _ hk => hk.2) (.int .i64 t170)) (fun _ hk => hk.2) (.bool t171)) (fun _ hk => hk.2) (.int .i64 t172)) (fun _ hk => hk.2) (.bool t173)) (fun _ hk => hk.2) (.bool t174)) (fun _ hk => hk.2) (.bool t175)) (fun _ hk => hk.2) (.bool t176)) (fun _ hk => hk.2) (.int .i64 t177)) (fun _ hk => hk.2) (.int .i64 t178)) (fun _ hk => hk.2) (.slice Ao34 t179.length co34)) (fun _ hk => hk.2) (.slice Ao35 t182.length co35)) (fun _ hk => hk.2) (.slice Ao36 t185.length co36)) (fun _ hk => hk.2) (.slice Ao37 t188.length co37)) (fun _ h_ => h_.1))))) (Kd.R_lt (by (with_reducible repeat (first | apply Kd.R_alloc | apply Kd.R_drewN | apply Kd.R_drew)); exact (Kd.R_mono (Kd.R_far (p := ⟨gb192, 12, none⟩) (Kd.R_far (p := ⟨gb192, 11, none⟩) (Kd.R_far (p := ⟨gb192, 10, none⟩) (Kd.R_far (p := ⟨gb192, 9, none⟩) (Kd.R_far (p := ⟨gb192, 8, none⟩) (Kd.R_far (p := ⟨gb192, 7, none⟩) (Kd.R_far (p := ⟨gb192, 6, none⟩) (Kd.R_far (p := ⟨gb192, 5, none⟩) (Kd.R_far (p := ⟨gb192, 4, none⟩) (Kd.R_far (p := ⟨gb192, 3, none⟩) (Kd.R_far (p := ⟨gb192, 2, none⟩) (Kd.R_far (p := ⟨gb192, 1, none⟩) (Kd.R_far (p := ⟨gb192, 0, none⟩) (Kd.R_types HO162.out BK192.out (by decide)) (fun _ hk => hk.2) (.int .i64 t170)) (fun _ hk => hk.2) (.bool t171)) (fun _ hk => hk.2) (.int .i64 t172)) (fun _ hk => hk.2) (.bool t173)) (fun _ hk => hk.2) (.bool t174)) (fun _ hk => hk.2) (.bool t175)) (fun _ hk => hk.2) (.bool t176)) (fun _ hk => hk.2) (.int .i64 t177)) (fun _ hk => hk.2) (.int .i64 t178)) (fun _ hk => hk.2) (.slice Ao34 t179.length co34)) (fun _ hk => hk.2) (.slice Ao35 t182.length co35)) (fun _ hk => hk.2) (.slice Ao36 t185.length co36)) (fun _ hk => hk.2) (.slice Ao37 t188.length co37)) (fun _ h_ => h_.1))))) (Kd.R_lt (by (with_reducible repeat (first | apply Kd.R_alloc | apply Kd.R_drewN | apply Kd.R_drew)); exact (Kd.R_mono (Kd.R_far (p := ⟨gb192, 12, none⟩) (Kd.R_far (p := ⟨gb192, 11, none⟩) (Kd.R_far (p := ⟨gb192, 10, none⟩) (Kd.R_far (p := ⟨gb192, 9, none⟩) (Kd.R_far (p := ⟨gb192, 8, none⟩) (Kd.R_far (p := ⟨gb192, 7, none⟩) (Kd.R_far (p := ⟨gb192, 6, none⟩) (Kd.R_far (p := ⟨gb192, 5, none⟩) (Kd.R_far (p := ⟨gb192, 4, none⟩) (Kd.R_far (p := ⟨gb192, 3, none⟩) (Kd.R_far (p := ⟨gb192, 2, none⟩) (Kd.R_far (p := ⟨gb192, 1, none⟩) (Kd.R_far (p := ⟨gb192, 0, none⟩) (Kd.R_types HO165.out BK192.out (by decide)) (fun _ hk => hk.2) (.int .i64 t170)) (fun _ hk => hk.2) (.bool t171)) (fun _ hk => hk.2) (.int .i64 t172)) (fun _ hk => hk.2) (.bool t173)) (fun _ hk => hk.2) (.bool t174)) (fun _ hk => hk.2) (.bool t175)) (fun _ hk => hk.2) (.bool t176)) (fun _ hk => hk.2) (.int .i64 t177)) (fun _ hk => hk.2) (.int .i64 t178)) (fun _ hk => hk.2) (.slice Ao34 t179.length co34)) (fun _ hk => hk.2) (.slice Ao35 t182.length co35)) (fun _ hk => hk.2) (.slice Ao36 t185.length co36)) (fun _ hk => hk.2) (.slice Ao37 t188.length co37)) (fun _ h_ => h_.1))))) (Kd.R_lt (by (with_reducible repeat (first | apply Kd.R_alloc | apply Kd.R_drewN | apply Kd.R_drew)); exact (Kd.R_mono (Kd.R_far (p := ⟨gb192, 12, none⟩) (Kd.R_far (p := ⟨gb192, 11, none⟩) (Kd.R_far (p := ⟨gb192, 10, none⟩) (Kd.R_far (p := ⟨gb192, 9, none⟩) (Kd.R_far (p := ⟨gb192, 8, none⟩) (Kd.R_far (p := ⟨gb192, 7, none⟩) (Kd.R_far (p := ⟨gb192, 6, none⟩) (Kd.R_far (p := ⟨gb192, 5, none⟩) (Kd.R_far (p := ⟨gb192, 4, none⟩) (Kd.R_far (p := ⟨gb192, 3, none⟩) (Kd.R_far (p := ⟨gb192, 2, none⟩) (Kd.R_far (p := ⟨gb192, 1, none⟩) (Kd.R_far (p := ⟨gb192, 0, none⟩) (Kd.R_types HO184.out BK192.out (by decide)) (fun _ hk => hk.2) (.int .i64 t170)) (fun _ hk => hk.2) (.bool t171)) (fun _ hk => hk.2) (.int .i64 t172)) (fun _ hk => hk.2) (.bool t173)) (fun _ hk => hk.2) (.bool t174)) (fun _ hk => hk.2) (.bool t175)) (fun _ hk => hk.2) (.bool t176)) (fun _ hk => hk.2) (.int .i64 t177)) (fun _ hk => hk.2) (.int .i64 t178)) (fun _ hk => hk.2) (.slice Ao34 t179.length co34)) (fun _ hk => hk.2) (.slice Ao35 t182.length co35)) (fun _ hk => hk.2) (.slice Ao36 t185.length co36)) (fun _ hk => hk.2) (.slice Ao37 t188.length co37)) (fun _ h_ => h_.1))))) (Kd.R_lt (by (with_reducible repeat (first | apply Kd.R_alloc | apply Kd.R_drewN | apply Kd.R_drew)); exact (Kd.R_mono (Kd.R_far (p := ⟨gb192, 12, none⟩) (Kd.R_far (p := ⟨gb192, 11, none⟩) (Kd.R_far (p := ⟨gb192, 10, none⟩) (Kd.R_far (p := ⟨gb192, 9, none⟩) (Kd.R_far (p := ⟨gb192, 8, none⟩) (Kd.R_far (p := ⟨gb192, 7, none⟩) (Kd.R_far (p := ⟨gb192, 6, none⟩) (Kd.R_far (p := ⟨gb192, 5, none⟩) (Kd.R_far (p := ⟨gb192, 4, none⟩) (Kd.R_far (p := ⟨gb192, 3, none⟩) (Kd.R_far (p := ⟨gb192, 2, none⟩) (Kd.R_far (p := ⟨gb192, 1, none⟩) (Kd.R_far (p := ⟨gb192, 0, none⟩) (Kd.R_types HO187.out BK192.out (by decide)) (fun _ hk => hk.2) (.int .i64 t170)) (fun _ hk => hk.2) (.bool t171)) (fun _ hk => hk.2) (.int .i64 t172)) (fun _ hk => hk.2) (.bool t173)) (fun _ hk => hk.2) (.bool t174)) (fun _ hk => hk.2) (.bool t175)) (fun _ hk => hk.2) (.bool t176)) (fun _ hk => hk.2) (.int .i64 t177)) (fun _ hk => hk.2) (.int .i64 t178)) (fun _ hk => hk.2) (.slice Ao34 t179.length co34)) (fun _ hk => hk.2) (.slice Ao35 t182.length co35)) (fun _ hk => hk.2) (.slice Ao36 t185.length co36)) (fun _ hk => hk.2) (.slice Ao37 t188.length co37)) (fun _ h_ => h_.1))))) (Kd.R_lt (by (with_reducible repeat (first | apply Kd.R_alloc | apply Kd.R_drewN | apply Kd.R_drew)); exact (Kd.R_mono (Kd.R_far (p := ⟨gb192, 12, none⟩) (Kd.R_far (p := ⟨gb192, 11, none⟩) (Kd.R_far (p := ⟨gb192, 10, none⟩) (Kd.R_far (p := ⟨gb192, 9, none⟩) (Kd.R_far (p := ⟨gb192, 8, none⟩) (Kd.R_far (p := ⟨gb192, 7, none⟩) (Kd.R_far (p := ⟨gb192, 6, none⟩) (Kd.R_far (p := ⟨gb192, 5, none⟩) (Kd.R_far (p := ⟨gb192, 4, none⟩) (Kd.R_far (p := ⟨gb192, 3, none⟩) (Kd.R_far (p := ⟨gb192, 2, none⟩) (Kd.R_far (p := ⟨gb192, 1, none⟩) (Kd.R_far (p := ⟨gb192, 0, none⟩) (Kd.R_types HO190.out BK192.out (by decide)) (fun _ hk => hk.2) (.int .i64 t170)) (fun _ hk => hk.2) (.bool t171)) (fun _ hk => hk.2) (.int .i64 t172)) (fun _ hk => hk.2) (.bool t173)) (fun _ hk => hk.2) (.bool t174)) (fun _ hk => hk.2) (.bool t175)) (fun _ hk => hk.2) (.bool t176)) (fun _ hk => hk.2) (.int .i64 t177)) (fun _ hk => hk.2) (.int .i64 t178)) (fun _ hk => hk.2) (.slice Ao34 t179.length co34)) (fun _ hk => hk.2) (.slice Ao35 t182.length co35)) (fun _ hk => hk.2) (.slice Ao36 t185.length co36)) (fun _ hk => hk.2) (.slice Ao37 t188.length co37)) (fun _ h_ => h_.1))))) (below_size (by repeat (first | (with_reducible first | exact HB.out | apply below_alloc | apply pw_below_drewN | apply below_drew1 | refine below_set ?_ GE142.out | refine below_set ?_ GE167.out | refine below_set ?_ GE192.out) | exact HB.out)))); have n13_ := Aside0.mk (blk_below (g := gb142) (o := .cells #[.int .i64 5, .bool false, .int .i64 0, .bool false, .bool false, .bool false, .bool false, .int .i64 0, .int .i64 0, .slice Ao15 y139.length co15, .slice none 0 0, .slice none 0 0, .slice none 0 0] 27 (0, 0)) (by (with_reducible repeat (first | refine blk_drewN ?_ _ | refine blk_drew ?_ | refine blk_alloc ?_ _)); refine blk_far ?_ NB142_192.out _; (with_reducible repeat (first | refine blk_drewN ?_ _ | refine blk_drew ?_ | refine blk_alloc ?_ _)); refine blk_far ?_ NB142_192.out _; (with_reducible repeat (first | refine blk_drewN ?_ _ | refine blk_drew ?_ | refine blk_alloc ?_ _)); refine blk_far ?_ NB142_192.out _; (with_reducible repeat (first | refine blk_drewN ?_ _ | refine blk_drew ?_ | refine blk_alloc ?_ _)); refine blk_far ?_ NB142_192.out _; (with_reducible repeat (first | refine blk_drewN ?_ _ | refine blk_drew ?_ | refine blk_alloc ?_ _)); refine blk_far ?_ NB142_192.out _; (with_reducible repeat (first | refine blk_drewN ?_ _ | refine blk_drew ?_ | refine blk_alloc ?_ _)); refine blk_far ?_ NB142_192.out _; (with_reducible repeat (first | refine blk_drewN ?_ _ | refine blk_drew ?_ | refine blk_alloc ?_ _)); refine blk_far ?_ NB142_192.out _; (with_reducible repeat (first | refine blk_drewN ?_ _ | refine blk_drew ?_ | refine blk_alloc ?_ _)); refine blk_far ?_ NB142_192.out _; (with_reducible repeat (first | refine blk_drewN ?_ _ | refine blk_drew ?_ | refine blk_alloc ?_ _)); refine blk_far ?_ NB142_192.out _; (with_reducible repeat (first | refine blk_drewN ?_ _ | refine blk_drew ?_ | refine blk_alloc ?_ _)); refine blk_far ?_ NB142_192.out _; (with_reducible repeat (first | refine blk_drewN ?_ _ | refine blk_drew ?_ | refine blk_alloc ?_ _)); refine blk_far ?_ NB142_192.out _; (with_reducible repeat (first | refine blk_drewN ?_ _ | refine blk_drew ?_ | refine blk_alloc ?_ _)); refine blk_far ?_ NB142_192.out _; (with_reducible repeat (first | refine blk_drewN ?_ _ | refine blk_drew ?_ | refine blk_alloc ?_ _)); refine blk_far ?_ NB142_192.out _; (with_reducible repeat (first | refine blk_drewN ?_ _ | refine blk_drew ?_ | refine blk_alloc ?_ _)); exact BK142.out) hb); have n14_ := Aside0.mk (blk_below (g := gb167) (o := .cells #[.int .i64 t145, .bool t146, .int .i64 t147, .bool t148, .bool t149, .bool t150, .bool t151, .int .i64 t152, .int .i64 t153, .slice Ao23 t154.length co23, .slice Ao24 t157.length co24, .slice Ao25 t160.length co25, .slice Ao26 t163.length co26] 27 (0, 0)) (by (with_reducible repeat (first | refine blk_drewN ?_ _ | refine blk_drew ?_ | refine blk_alloc ?_ _)); refine blk_far ?_ NB167_192.out _; (with_reducible repeat (first | refine blk_drewN ?_ _ | refine blk_drew ?_ | refine blk_alloc ?_ _)); refine blk_far ?_ NB167_192.out _; (with_reducible repeat (first | refine blk_drewN ?_ _ | refine blk_drew ?_ | refine blk_alloc ?_ _)); refine blk_far ?_ NB167_192.out _; (with_reducible repeat (first | refine blk_drewN ?_ _ | refine blk_drew ?_ | refine blk_alloc ?_ _)); refine blk_far ?_ NB167_192.out _; (with_reducible repeat (first | refine blk_drewN ?_ _ | refine blk_drew ?_ | refine blk_alloc ?_ _)); refine blk_far ?_ NB167_192.out _; (with_reducible repeat (first | refine blk_drewN ?_ _ | refine blk_drew ?_ | refine blk_alloc ?_ _)); refine blk_far ?_ NB167_192.out _; (with_reducible repeat (first | refine blk_drewN ?_ _ | refine blk_drew ?_ | refine blk_alloc ?_ _)); refine blk_far ?_ NB167_192.out _; (with_reducible repeat (first | refine blk_drewN ?_ _ | refine blk_drew ?_ | refine blk_alloc ?_ _)); refine blk_far ?_ NB167_192.out _; (with_reducible repeat (first | refine blk_drewN ?_ _ | refine blk_drew ?_ | refine blk_alloc ?_ _)); refine blk_far ?_ NB167_192.out _; (with_reducible repeat (first | refine blk_drewN ?_ _ | refine blk_drew ?_ | refine blk_alloc ?_ _)); refine blk_far ?_ NB167_192.out _; (with_reducible repeat (first | refine blk_drewN ?_ _ | refine blk_drew ?_ | refine blk_alloc ?_ _)); refine blk_far ?_ NB167_192.out _; (with_reducible repeat (first | refine blk_drewN ?_ _ | refine blk_drew ?_ | refine blk_alloc ?_ _)); refine blk_far ?_ NB167_192.out _; (with_reducible repeat (first | refine blk_drewN ?_ _ | refine blk_drew ?_ | refine blk_alloc ?_ _)); refine blk_far ?_ NB167_192.out _; (with_reducible repeat (first | refine blk_drewN ?_ _ | refine blk_drew ?_ | refine blk_alloc ?_ _)); exact BK167.out) hb); have n15_ := Aside0.mk (blk_below (g := gb192) (o := .cells #[.int .i64 t170, .bool t171, .int .i64 t172, .bool t173, .bool t174, .bool t175, .bool t176, .int .i64 t177, .int .i64 t178, .slice Ao34 t179.length co34, .slice Ao35 t182.length co35, .slice Ao36 t185.length co36, .slice Ao37 t188.length co37] 27 (0, 0)) (by (with_reducible repeat (first | refine blk_drewN ?_ _ | refine blk_drew ?_ | refine blk_alloc ?_ _)); refine blk_put (cs := #[.int .i64 t170, .bool t171, .int .i64 t172, .bool t173, .bool t174, .bool t175, .bool t176, .int .i64 t177, .int .i64 t178, .slice Ao34 t179.length co34, .slice Ao35 t182.length co35, .slice Ao36 t185.length co36, .slice none 0 0]) ?_ 12 _ rfl; (with_reducible repeat (first | refine blk_drewN ?_ _ | refine blk_drew ?_ | refine blk_alloc ?_ _)); refine blk_put (cs := #[.int .i64 t170, .bool t171, .int .i64 t172, .bool t173, .bool t174, .bool t175, .bool t176, .int .i64 t177, .int .i64 t178, .slice Ao34 t179.length co34, .slice Ao35 t182.length co35, .slice none 0 0, .slice none 0 0]) ?_ 11 _ rfl; (with_reducible repeat (first | refine blk_drewN ?_ _ | refine blk_drew ?_ | refine blk_alloc ?_ _)); refine blk_put (cs := #[.int .i64 t170, .bool t171, .int .i64 t172, .bool t173, .bool t174, .bool t175, .bool t176, .int .i64 t177, .int .i64 t178, .slice Ao34 t179.length co34, .slice none 0 0, .slice none 0 0, .slice none 0 0]) ?_ 10 _ rfl; (with_reducible repeat (first | refine blk_drewN ?_ _ | refine blk_drew ?_ | refine blk_alloc ?_ _)); refine blk_put (cs := #[.int .i64 t170, .bool t171, .int .i64 t172, .bool t173, .bool t174, .bool t175, .bool t176, .int .i64 t177, .int .i64 t178, .slice none 0 0, .slice none 0 0, .slice none 0 0, .slice none 0 0]) ?_ 9 _ rfl; (with_reducible repeat (first | refine blk_drewN ?_ _ | refine blk_drew ?_ | refine blk_alloc ?_ _)); refine blk_put (cs := #[.int .i64 t170, .bool t171, .int .i64 t172, .bool t173, .bool t174, .bool t175, .bool t176, .int .i64 t177, .int .i64 0, .slice none 0 0, .slice none 0 0, .slice none 0 0, .slice none 0 0]) ?_ 8 _ rfl; (with_reducible repeat (first | refine blk_drewN ?_ _ | refine blk_drew ?_ | refine blk_alloc ?_ _)); refine blk_put (cs := #[.int .i64 t170, .bool t171, .int .i64 t172, .bool t173, .bool t174, .bool t175, .bool t176, .int .i64 0, .int .i64 0, .slice none 0 0, .slice none 0 0, .slice none 0 0, .slice none 0 0]) ?_ 7 _ rfl; (with_reducible repeat (first | refine blk_drewN ?_ _ | refine blk_drew ?_ | refine blk_alloc ?_ _)); refine blk_put (cs := #[.int .i64 t170, .bool t171, .int .i64 t172, .bool t173, .bool t174, .bool t175, .bool false, .int .i64 0, .int .i64 0, .slice none 0 0, .slice none 0 0, .slice none 0 0, .slice none 0 0]) ?_ 6 _ rfl; (with_reducible repeat (first | refine blk_drewN ?_ _ | refine blk_drew ?_ | refine blk_alloc ?_ _)); refine blk_put (cs := #[.int .i64 t170, .bool t171, .int .i64 t172, .bool t173, .bool t174, .bool false, .bool false, .int .i64 0, .int .i64 0, .slice none 0 0, .slice none 0 0, .slice none 0 0, .slice none 0 0]) ?_ 5 _ rfl; (with_reducible repeat (first | refine blk_drewN ?_ _ | refine blk_drew ?_ | refine blk_alloc ?_ _)); refine blk_put (cs := #[.int .i64 t170, .bool t171, .int .i64 t172, .bool t173, .bool false, .bool false, .bool false, .int .i64 0, .int .i64 0, .slice none 0 0, .slice none 0 0, .slice none 0 0, .slice none 0 0]) ?_ 4 _ rfl; (with_reducible repeat (first | refine blk_drewN ?_ _ | refine blk_drew ?_ | refine blk_alloc ?_ _)); refine blk_put (cs := #[.int .i64 t170, .bool t171, .int .i64 t172, .bool false, .bool false, .bool false, .bool false, .int .i64 0, .int .i64 0, .slice none 0 0, .slice none 0 0, .slice none 0 0, .slice none 0 0]) ?_ 3 _ rfl; (with_reducible repeat (first | refine blk_drewN ?_ _ | refine blk_drew ?_ | refine blk_alloc ?_ _)); refine blk_put (cs := #[.int .i64 t170, .bool t171, .int .i64 0, .bool false, .bool false, .bool false, .bool false, .int .i64 0, .int .i64 0, .slice none 0 0, .slice none 0 0, .slice none 0 0, .slice none 0 0]) ?_ 2 _ rfl; (with_reducible repeat (first | refine blk_drewN ?_ _ | refine blk_drew ?_ | refine blk_alloc ?_ _)); refine blk_put (cs := #[.int .i64 t170, .bool false, .int .i64 0, .bool false, .bool false, .bool false, .bool false, .int .i64 0, .int .i64 0, .slice none 0 0, .slice none 0 0, .slice none 0 0, .slice none 0 0]) ?_ 1 _ rfl; (with_reducible repeat (first | refine blk_drewN ?_ _ | refine blk_drew ?_ | refine blk_alloc ?_ _)); refine blk_put (cs := #[.int .i64 0, .bool false, .int .i64 0, .bool false, .bool false, .bool false, .bool false, .int .i64 0, .int .i64 0, .slice none 0 0, .slice none 0 0, .slice none 0 0, .slice none 0 0]) ?_ 0 _ rfl; (with_reducible repeat (first | refine blk_drewN ?_ _ | refine blk_drew ?_ | refine blk_alloc ?_ _)); exact BK192.out) hb); have n16_ := Aside0.mk (below_step (by repeat (first | (with_reducible first | exact HB.out | apply below_alloc | apply pw_below_drewN | apply below_drew1 | refine below_set ?_ GE142.out | refine below_set ?_ GE167.out | refine below_set ?_ GE192.out) | exact HB.out)) hb); clear HO141; clear HO156; clear HO159; clear HO162; clear HO165; clear HO181; clear HO184; clear HO187; clear HO190; clear BK142; clear BK167; clear BK192; clear HB; have HO141 := n0_; have HO156 := n1_; have HO159 := n2_; have HO162 := n3_; have HO165 := n4_; have HO181 := n5_; have HO184 := n6_; have HO187 := n7_; have HO190 := n8_; have HO204 := n9_; have HO207 := n10_; have HO210 := n11_; have HO213 := n12_; have BK142 := n13_; have BK167 := n14_; have BK192 := n15_; have HB := n16_; clear n0_ n1_ n2_ n3_ n4_ n5_ n6_ n7_ n8_ n9_ n10_ n11_ n12_ n13_ n14_ n15_ n16_; (try clear hb); (try clear hb2); (try clear hk); (try clear hi); (try clear ho0); (try clear ho1); (try clear ho2); (try clear ho3)) | ((with_reducible refine gate_dst (N := 10) rfl ?_); (try (refine gate_guard (by rfl) ?_; dsimp only)); refine box_event ?hg (N := 10) ?hd (cs := #[.int .i64 0, .bool false, .int .i64 0, .bool false, .bool false, .bool false, .bool false, .int .i64 0, .int .i64 0, .slice none 0 0, .slice none 0 0, .slice none 0 0, .slice none 0 0]) (t := 27) ?hr ?_; (case hd => rfl); (case hg => rfl); (case hr => first | (go_simp; done) | (go_simp; rfl)); intro gb215 hg w39 hbox hb; have n0_ := Aside0.mk (Kd.R_below (by (with_reducible repeat (first | apply Kd.R_alloc | apply Kd.R_drewN | apply Kd.R_drew)); exact HO141.out) hb); have n1_ := Aside0.mk (Kd.R_below (by (with_reducible repeat (first | apply Kd.R_alloc | apply Kd.R_drewN | apply Kd.R_drew)); exact HO156.out) hb); have n2_ := Aside0.mk (Kd.R_below (by (with_reducible repeat (first | apply Kd.R_alloc | apply Kd.R_drewN | apply Kd.R_drew)); exact HO159.out) hb); have n3_ := Aside0.mk (Kd.R_below (by (with_reducible repeat (first | apply Kd.R_alloc | apply Kd.R_drewN | apply Kd.R_drew)); exact HO162.out) hb); have n4_ := Aside0.mk (Kd.R_below (by (with_reducible repeat (first | apply Kd.R_alloc | apply Kd.R_drewN | apply Kd.R_drew)); exact HO165.out) hb); have n5_ := Aside0.mk (Kd.R_below (by (with_reducible repeat (first | apply Kd.R_alloc | apply Kd.R_drewN | apply Kd.R_drew)); exact HO181.out) hb); have n6_ := Aside0.mk (Kd.R_below (by (with_reducible repeat (first | apply Kd.R_alloc | apply Kd.R_drewN | apply Kd.R_drew)); exact HO184.out) hb); have n7_ := Aside0.mk (Kd.R_below (by (with_reducible repeat (first | apply Kd.R_alloc | apply Kd.R_drewN | apply Kd.R_drew)); exact HO187.out) hb); have n8_ := Aside0.mk (Kd.R_below (by (with_reducible repeat (first | apply Kd.R_alloc | apply Kd.R_drewN | apply Kd.R_drew)); exact HO190.out) hb); have n9_ := Aside0.mk (Kd.R_below (by (with_reducible repeat (first | apply Kd.R_alloc | apply Kd.R_drewN | apply Kd.R_drew)); exact HO204.out) hb); have n10_ := Aside0.mk (Kd.R_below (by (with_reducible repeat (first | apply Kd.R_alloc | apply Kd.R_drewN | apply Kd.R_drew)); exact HO207.out) hb); have n11_ := Aside0.mk (Kd.R_below (by (with_reducible repeat (first | apply Kd.R_alloc | apply Kd.R_drewN | apply Kd.R_drew)); exact HO210.out) hb); have n12_ := Aside0.mk (Kd.R_below (by (with_reducible repeat (first | apply Kd.R_alloc | apply Kd.R_drewN | apply Kd.R_drew)); exact HO213.out) hb); have n13_ := Aside0.mk (blk_below (g := gb142) (o := .cells #[.int .i64 5, .bool false, .int .i64 0, .bool false, .bool false, .bool false, .bool false, .int .i64 0, .int .i64 0, .slice Ao15 y139.length co15, .slice none 0 0, .slice none 0 0, .slice none 0 0] 27 (0, 0)) (by (with_reducible repeat (first | refine blk_drewN ?_ _ | refine blk_drew ?_ | refine blk_alloc ?_ _)); exact BK142.out) hb); have n14_ := Aside0.mk (blk_below (g := gb167) (o := .cells #[.int .i64 t145, .bool t146, .int .i64 t147, .bool t148, .bool t149, .bool t150, .bool t151, .int .i64 t152, .int .i64 t153, .slice Ao23 t154.length co23, .slice Ao24 t157.length co24, .slice Ao25 t160.length co25, .slice Ao26 t163.length co26] 27 (0, 0)) (by (with_reducible repeat (first | refine blk_drewN ?_ _ | refine blk_drew ?_ | refine blk_alloc ?_ _)); exact BK167.out) hb); have n15_ := Aside0.mk (blk_below (g := gb192) (o := .cells #[.int .i64 t170, .bool t171, .int .i64 t172, .bool t173, .bool t174, .bool t175, .bool t176, .int .i64 t177, .int .i64 t178, .slice Ao34 t179.length co34, .slice Ao35 t182.length co35, .slice Ao36 t185.length co36, .slice Ao37 t188.length co37] 27 (0, 0)) (by (with_reducible repeat (first | refine blk_drewN ?_ _ | refine blk_drew ?_ | refine blk_alloc ?_ _)); exact BK192.out) hb); have n16_ := Aside0.mk (below_step (by repeat (first | (with_reducible first | exact HB.out | apply below_alloc | apply pw_below_drewN | apply below_drew1 | refine below_set ?_ GE142.out | refine below_set ?_ GE167.out | refine below_set ?_ GE192.out) | exact HB.out)) hb); have n17_ := Aside0.mk (hbox); have n18_ := Aside0.mk ((by rw [hg]; exact (below_size (by repeat (first | (with_reducible first | exact HB.out | apply below_alloc | apply pw_below_drewN | apply below_drew1 | refine below_set ?_ GE142.out | refine below_set ?_ GE167.out | refine below_set ?_ GE192.out) | exact HB.out))) : w.heap.size ≤ gb215)); have n19_ := Aside0.mk ((by rw [hg]; exact (below_size (by repeat (first | (with_reducible first | exact HB.out | apply below_alloc | apply pw_below_drewN | apply below_drew1 | refine below_set ?_ GE142.out | refine below_set ?_ GE167.out | refine below_set ?_ GE192.out) | exact HB.out))) : w.heap.size ≤ gb215)); have n20_ := Aside0.mk ((by rw [hg]; exact Nat.ne_of_lt (blk_lt (g := gb142) (o := .cells #[.int .i64 5, .bool false, .int .i64 0, .bool false, .bool false, .bool false, .bool false, .int .i64 0, .int .i64 0, .slice Ao15 y139.length co15, .slice none 0 0, .slice none 0 0, .slice none 0 0] 27 (0, 0)) (by (with_reducible repeat (first | refine blk_drewN ?_ _ | refine blk_drew ?_ | refine blk_alloc ?_ _)); exact BK142.out)) : gb142 ≠ gb215)); have n21_ := Aside0.mk ((by rw [hg]; exact Nat.ne_of_gt (blk_lt (g := gb142) (o := .cells #[.int .i64 5, .bool false, .int .i64 0, .bool false, .bool false, .bool false, .bool false, .int .i64 0, .int .i64 0, .slice Ao15 y139.length co15, .slice none 0 0, .slice none 0 0, .slice none 0 0] 27 (0, 0)) (by (with_reducible repeat (first | refine blk_drewN ?_ _ | refine blk_drew ?_ | refine blk_alloc ?_ _)); exact BK142.out)) : gb215 ≠ gb142)); have n22_ := Aside0.mk ((by rw [hg]; exact Nat.ne_of_lt (blk_lt (g := gb167) (o := .cells #[.int .i64 t145, .bool t146, .int .i64 t147, .bool t148, .bool t149, .bool t150, .bool t151, .int .i64 t152, .int .i64 t153, .slice Ao23 t154.length co23, .slice Ao24 t157.length co24, .slice Ao25 t160.length co25, .slice Ao26 t163.length co26] 27 (0, 0)) (by (with_reducible repeat (first | refine blk_drewN ?_ _ | refine blk_drew ?_ | refine blk_alloc ?_ _)); exact BK167.out)) : gb167 ≠ gb215)); have n23_ := Aside0.mk ((by rw [hg]; exact Nat.ne_of_gt (blk_lt (g := gb167) (o := .cells #[.int .i64 t145, .bool t146, .int .i64 t147, .bool t148, .bool t149, .bool t150, .bool t151, .int .i64 t152, .int .i64 t153, .slice Ao23 t154.length co23, .slice Ao24 t157.length co24, .slice Ao25 t160.length co25, .slice Ao26 t163.length co26] 27 (0, 0)) (by (with_reducible repeat (first | refine blk_drewN ?_ _ | refine blk_drew ?_ | refine blk_alloc ?_ _)); exact BK167.out)) : gb215 ≠ gb167)); have n24_ := Aside0.mk ((by rw [hg]; exact Nat.ne_of_lt (blk_lt (g := gb192) (o := .cells #[.int .i64 t170, .bool t171, .int .i64 t172, .bool t173, .bool t174, .bool t175, .bool t176, .int .i64 t177, .int .i64 t178, .slice Ao34 t179.length co34, .slice Ao35 t182.length co35, .slice Ao36 t185.length co36, .slice Ao37 t188.length co37] 27 (0, 0)) (by (with_reducible repeat (first | refine blk_drewN ?_ _ | refine blk_drew ?_ | refine blk_alloc ?_ _)); exact BK192.out)) : gb192 ≠ gb215)); have n25_ := Aside0.mk ((by rw [hg]; exact Nat.ne_of_gt (blk_lt (g := gb192) (o := .cells #[.int .i64 t170, .bool t171, .int .i64 t172, .bool t173, .bool t174, .bool t175, .bool t176, .int .i64 t177, .int .i64 t178, .slice Ao34 t179.length co34, .slice Ao35 t182.length co35, .slice Ao36 t185.length co36, .slice Ao37 t188.length co37] 27 (0, 0)) (by (with_reducible repeat (first | refine blk_drewN ?_ _ | refine blk_drew ?_ | refine blk_alloc ?_ _)); exact BK192.out)) : gb215 ≠ gb192)); clear HO141; clear HO156; clear HO159; clear HO162; clear HO165; clear HO181; clear HO184; clear HO187; clear HO190; clear HO204; clear HO207; clear HO210; clear HO213; clear BK142; clear BK167; clear BK192; clear HB; have HO141 := n0_; have HO156 := n1_; have HO159 := n2_; have HO162 := n3_; have HO165 := n4_; have HO181 := n5_; have HO184 := n6_; have HO187 := n7_; have HO190 := n8_; have HO204 := n9_; have HO207 := n10_; have HO210 := n11_; have HO213 := n12_; have BK142 := n13_; have BK167 := n14_; have BK192 := n15_; have HB := n16_; have BK215 := n17_; have GW215 := n18_; have GE215 := n19_; have NB142_215 := n20_; have NB215_142 := n21_; have NB167_215 := n22_; have NB215_167 := n23_; have NB192_215 := n24_; have NB215_192 := n25_; clear n0_ n1_ n2_ n3_ n4_ n5_ n6_ n7_ n8_ n9_ n10_ n11_ n12_ n13_ n14_ n15_ n16_ n17_ n18_ n19_ n20_ n21_ n22_ n23_ n24_ n25_; clear hb hbox hg; have hnb40 := NB215_142.out; have hnc40 := NB142_215.out; have hnb41 := NB215_167.out; have hnc41 := NB167_215.out; have hnb42 := NB215_192.out; have hnc42 := NB192_215.out; (try clear hcz32_0 hcz32_1 hcz32_2 hcz32_3 hcz32_4 hfz32_0 hfz32_1 hfz32_2 hfz32_3 hfz32_4); (try clear hcz34_0 hcz34_1 hcz34_2 hcz34_3 hcz34_4 hfz34_0 hfz34_1 hfz34_2 hfz34_3 hfz34_4); (try clear hcz17_0 hcz17_1 hcz17_2 hcz17_3 hcz17_4 hcz17_5 hcz17_6 hcz17_7 hcz17_8 hcz17_9 hcz17_10 hcz17_11 hcz17_12 hfz17_0 hfz17_1 hfz17_2 hfz17_3 hfz17_4 hfz17_5 hfz17_6 hfz17_7 hfz17_8 hfz17_9 hfz17_10 hfz17_11 hfz17_12); (try clear hcz22_0 hcz22_1 hcz22_2 hcz22_3 hcz22_4 hcz22_5 hcz22_6 hcz22_7 hcz22_8 hcz22_9 hcz22_10 hcz22_11 hcz22_12 hfz22_0 hfz22_1 hfz22_2 hfz22_3 hfz22_4 hfz22_5 hfz22_6 hfz22_7 hfz22_8 hfz22_9 hfz22_10 hfz22_11 hfz22_12); (try clear hcz27_0 hcz27_1 hcz27_2 hcz27_3 hcz27_4 hcz27_5 hcz27_6 hcz27_7 hcz27_8 hcz27_9 hcz27_10 hcz27_11 hcz27_12 hfz27_0 hfz27_1 hfz27_2 hfz27_3 hfz27_4 hfz27_5 hfz27_6 hfz27_7 hfz27_8 hfz27_9 hfz27_10 hfz27_11 hfz27_12); (try clear hcz33_0 hcz33_1 hcz33_2 hcz33_3 hcz33_4 hcz33_5 hcz33_6 hcz33_7 hcz33_8 hcz33_9 hcz33_10 hcz33_11 hcz33_12 hfz33_0 hfz33_1 hfz33_2 hfz33_3 hfz33_4 hfz33_5 hfz33_6 hfz33_7 hfz33_8 hfz33_9 hfz33_10 hfz33_11 hfz33_12); have hcz43_0 : w39.cell? ⟨gb215, 0, none⟩ = some (.int .i64 0) := (blk_cell BK215.out 0).trans rfl; have hcz43_1 : w39.cell? ⟨gb215, 1, none⟩ = some (.bool false) := (blk_cell BK215.out 1).trans rfl; have hcz43_2 : w39.cell? ⟨gb215, 2, none⟩ = some (.int .i64 0) := (blk_cell BK215.out 2).trans rfl; have hcz43_3 : w39.cell? ⟨gb215, 3, none⟩ = some (.bool false) := (blk_cell BK215.out 3).trans rfl; have hcz43_4 : w39.cell? ⟨gb215, 4, none⟩ = some (.bool false) := (blk_cell BK215.out 4).trans rfl; have hcz43_5 : w39.cell? ⟨gb215, 5, none⟩ = some (.bool false) := (blk_cell BK215.out 5).trans rfl; have hcz43_6 : w39.cell? ⟨gb215, 6, none⟩ = some (.bool false) := (blk_cell BK215.out 6).trans rfl; have hcz43_7 : w39.cell? ⟨gb215, 7, none⟩ = some (.int .i64 0) := (blk_cell BK215.out 7).trans rfl; have hcz43_8 : w39.cell? ⟨gb215, 8, none⟩ = some (.int .i64 0) := (blk_cell BK215.out 8).trans rfl; have hcz43_9 : w39.cell? ⟨gb215, 9, none⟩ = some (.slice none 0 0) := (blk_cell BK215.out 9).trans rfl; have hcz43_10 : w39.cell? ⟨gb215, 10, none⟩ = some (.slice none 0 0) := (blk_cell BK215.out 10).trans rfl; have hcz43_11 : w39.cell? ⟨gb215, 11, none⟩ = some (.slice none 0 0) := (blk_cell BK215.out 11).trans rfl; have hcz43_12 : w39.cell? ⟨gb215, 12, none⟩ = some (.slice none 0 0) := (blk_cell BK215.out 12).trans rfl; have hfz43_0 := blk_frozen BK215.out 0; have hfz43_1 := blk_frozen BK215.out 1; have hfz43_2 := blk_frozen BK215.out 2; have hfz43_3 := blk_frozen BK215.out 3; have hfz43_4 := blk_frozen BK215.out 4; have hfz43_5 := blk_frozen BK215.out 5; have hfz43_6 := blk_frozen BK215.out 6; have hfz43_7 := blk_frozen BK215.out 7; have hfz43_8 := blk_frozen BK215.out 8; have hfz43_9 := blk_frozen BK215.out 9; have hfz43_10 := blk_frozen BK215.out 10; have hfz43_11 := blk_frozen BK215.out 11; have hfz43_12 := blk_frozen BK215.out 12; obtain ⟨Ao44, co44, eo44⟩ := Kd.R_slice HO204.out; subst eo44; obtain ⟨Ao45, co45, eo45⟩ := Kd.R_slice HO207.out; subst eo45; obtain ⟨Ao46, co46, eo46⟩ := Kd.R_slice HO210.out; subst eo46; obtain ⟨Ao47, co47, eo47⟩ := Kd.R_slice HO213.out; subst eo47; (try clear hcz34_0 hcz34_1 hcz34_2 hcz34_3 hcz34_4 hfz34_0 hfz34_1 hfz34_2 hfz34_3 hfz34_4); (try clear hcz17_0 hcz17_1 hcz17_2 hcz17_3 hcz17_4 hcz17_5 hcz17_6 hcz17_7 hcz17_8 hcz17_9 hcz17_10 hcz17_11 hcz17_12 hfz17_0 hfz17_1 hfz17_2 hfz17_3 hfz17_4 hfz17_5 hfz17_6 hfz17_7 hfz17_8 hfz17_9 hfz17_10 hfz17_11 hfz17_12); (try clear hcz22_0 hcz22_1 hcz22_2 hcz22_3 hcz22_4 hcz22_5 hcz22_6 hcz22_7 hcz22_8 hcz22_9 hcz22_10 hcz22_11 hcz22_12 hfz22_0 hfz22_1 hfz22_2 hfz22_3 hfz22_4 hfz22_5 hfz22_6 hfz22_7 hfz22_8 hfz22_9 hfz22_10 hfz22_11 hfz22_12); (try clear hcz27_0 hcz27_1 hcz27_2 hcz27_3 hcz27_4 hcz27_5 hcz27_6 hcz27_7 hcz27_8 hcz27_9 hcz27_10 hcz27_11 hcz27_12 hfz27_0 hfz27_1 hfz27_2 hfz27_3 hfz27_4 hfz27_5 hfz27_6 hfz27_7 hfz27_8 hfz27_9 hfz27_10 hfz27_11 hfz27_12); (try clear hcz33_0 hcz33_1 hcz33_2 hcz33_3 hcz33_4 hcz33_5 hcz33_6 hcz33_7 hcz33_8 hcz33_9 hcz33_10 hcz33_11 hcz33_12 hfz33_0 hfz33_1 hfz33_2 hfz33_3 hfz33_4 hfz33_5 hfz33_6 hfz33_7 hfz33_8 hfz33_9 hfz33_10 hfz33_11 hfz33_12); have hcz48_0 : w39.cell? ⟨gb167, 0, none⟩ = some (.int .i64 t145) := (blk_cell BK167.out 0).trans rfl; have hcz48_1 : w39.cell? ⟨gb167, 1, none⟩ = some (.bool t146) := (blk_cell BK167.out 1).trans rfl; have hcz48_2 : w39.cell? ⟨gb167, 2, none⟩ = some (.int .i64 t147) := (blk_cell BK167.out 2).trans rfl; have hcz48_3 : w39.cell? ⟨gb167, 3, none⟩ = some (.bool t148) := (blk_cell BK167.out 3).trans rfl; have hcz48_4 : w39.cell? ⟨gb167, 4, none⟩ = some (.bool t149) := (blk_cell BK167.out 4).trans rfl; have hcz48_5 : w39.cell? ⟨gb167, 5, none⟩ = some (.bool t150) := (blk_cell BK167.out 5).trans rfl; have hcz48_6 : w39.cell? ⟨gb167, 6, none⟩ = some (.bool t151) := (blk_cell BK167.out 6).trans rfl; have hcz48_7 : w39.cell? ⟨gb167, 7, none⟩ = some (.int .i64 t152) := (blk_cell BK167.out 7).trans rfl; have hcz48_8 : w39.cell? ⟨gb167, 8, none⟩ = some (.int .i64 t153) := (blk_cell BK167.out 8).trans rfl; have hcz48_9 : w39.cell? ⟨gb167, 9, none⟩ = some (.slice Ao23 t154.length co23) := (blk_cell BK167.out 9).trans rfl; have hcz48_10 : w39.cell? ⟨gb167, 10, none⟩ = some (.slice Ao24 t157.length co24) := (blk_cell BK167.out 10).trans rfl; have hcz48_11 : w39.cell? ⟨gb167, 11, none⟩ = some (.slice Ao25 t160.length co25) := (blk_cell BK167.out 11).trans rfl; have hcz48_12 : w39.cell? ⟨gb167, 12, none⟩ = some (.slice Ao26 t163.length co26) := (blk_cell BK167.out 12).trans rfl; have hfz48_0 := blk_frozen BK167.out 0; have hfz48_1 := blk_frozen BK167.out 1; have hfz48_2 := blk_frozen BK167.out 2; have hfz48_3 := blk_frozen BK167.out 3; have hfz48_4 := blk_frozen BK167.out 4; have hfz48_5 := blk_frozen BK167.out 5; have hfz48_6 := blk_frozen BK167.out 6; have hfz48_7 := blk_frozen BK167.out 7; have hfz48_8 := blk_frozen BK167.out 8; have hfz48_9 := blk_frozen BK167.out 9; have hfz48_10 := blk_frozen BK167.out 10; have hfz48_11 := blk_frozen BK167.out 11; have hfz48_12 := blk_frozen BK167.out 12) | (go_at_call 21; (with_reducible refine (wimplelaw0_Num.calls t166 t216 _ A8.out).mono ?_); rintro e w' ⟨rfl, ⟨nd, rfl⟩⟩) | (go_at_call 21; (with_reducible refine (wimplelaw0_Num.calls t191 t217 _ A10.out).mono ?_); rintro e w' ⟨rfl, ⟨nd, rfl⟩⟩) | (go_at_call 21; (with_reducible refine (wimplelaw0_Num.calls t214 t218 _ A12.out).mono ?_); rintro e w' ⟨rfl, ⟨nd, rfl⟩⟩))
          go_ret
          exact ⟨by first | rfl | (simp [errW_none, errW_some] <;> rfl) | (simp [*, errW_none, errW_some] <;> rfl), by repeat (first | (with_reducible first | exact HB.out | apply below_alloc | apply pw_below_drewN | apply below_drew1 | refine below_set ?_ GE142.out | refine below_set ?_ GE167.out | refine below_set ?_ GE192.out | refine below_set ?_ GE215.out) | exact HB.out)⟩
        · rw [if_neg c11] at H
          exact absurd H (by simp)
      · rw [if_neg c9] at H
        exact absurd H (by simp)
    · rw [if_neg c7] at H
      exact absurd H (by simp)
  · rw [if_neg c6] at H
    exact absurd H (by simp)

/-- THE ONE PURE STATEMENT of wimplelaw20_awake: yours. -/
def wimplelaw20_awake.Pure : Prop := ∃ k, wimplelaw20_awake.f k  = some true
theorem wimplelaw20_awake.walk (P : wimplelaw20_awake.Pure)  (w : World)  :
    Calls Try.prog 22 #[] w fun e w' => e = .returned (.bool true) ∧ Below w.heap.size w w' := by
  obtain ⟨k, h⟩ := P  
  refine (wimplelaw20_awake.calls k  true w h).mono ?_
  rintro e w' ⟨rfl, hd⟩
  exact ⟨rfl, hd⟩

end Go.Proofs.Ytjklgdpffmaamaa.PLs

namespace Go.Proofs.Ytjklgdpffmaamaa.ReplyPLs
open Go.RowKit Go.Proofs.Ytjklgdpffmaamaa.PLs Go.Proofs.Ytjklgdpffmaamaa.Pu Go.Proofs.Ytjklgdpffmaamaa.Wm Go.Proofs.Ytjklgdpffmaamaa.Oct Go.Proofs.Ytjklgdpffmaamaa.Nm Go.Proofs.Ytjklgdpffmaamaa.Wr
open Go.Proofs.YtjklgdpffmaamaaW.PrintWords (Ev LeO)
set_option linter.unusedVariables false
theorem sameQ_at (l : List S40) (hl : l.length ≤ 1000000) : ∀ n i, l.length - i ≤ n → i ≤ l.length → Ev (fun k => wimplelaw0_SameQuestions.l0 k l l (i : Int)) true := by
  intro n
  induction n with
  | zero => intro i h h2; exact Ev.step (fun k => by rw [wimplelaw0_SameQuestions.l0]) (Ev.neg (by omega) (Ev.now _))
  | succ n ih =>
    intro i h h2
    by_cases hi : i < l.length
    · refine Ev.step (fun k => by rw [wimplelaw0_SameQuestions.l0]) (Ev.pos (by omega) (Ev.pos (by omega) (Ev.pos (by omega) (Ev.neg (by simp) ?_))))
      rw [Pu.w64 (by omega) (by omega), show (i : Int) + 1 = ((i + 1 : Nat) : Int) by omega]
      exact ih (i + 1) (by omega) (by omega)
    · exact Ev.step (fun k => by rw [wimplelaw0_SameQuestions.l0]) (Ev.neg (by omega) (Ev.now _))
theorem sameQ (l : List S40) (hl : l.length ≤ 1000000) : Ev (fun k => wimplelaw0_SameQuestions.f k l l) true := Ev.pos rfl (sameQ_at l hl _ 0 (Nat.le_refl _) (by omega))
theorem sameR_at (l : List S53) (hl : l.length ≤ 1000000) : ∀ n i, l.length - i ≤ n → i ≤ l.length → Ev (fun k => wimplelaw0_SameRrs.l0 k l l (i : Int)) true := by
  intro n
  induction n with
  | zero => intro i h h2; exact Ev.step (fun k => by rw [wimplelaw0_SameRrs.l0]) (Ev.neg (by omega) (Ev.now _))
  | succ n ih =>
    intro i h h2
    by_cases hi : i < l.length
    · refine Ev.step (fun k => by rw [wimplelaw0_SameRrs.l0]) (Ev.pos (by omega) (Ev.pos (by omega) (Ev.pos (by omega) (Ev.neg (by simp) ?_))))
      rw [Pu.w64 (by omega) (by omega), show (i : Int) + 1 = ((i + 1 : Nat) : Int) by omega]
      exact ih (i + 1) (by omega) (by omega)
    · exact Ev.step (fun k => by rw [wimplelaw0_SameRrs.l0]) (Ev.neg (by omega) (Ev.now _))
theorem sameR (l : List S53) (hl : l.length ≤ 1000000) : Ev (fun k => wimplelaw0_SameRrs.f k l l) true := Ev.pos rfl (sameR_at l hl _ 0 (Nat.le_refl _) (by omega))
theorem sameM (id : Int) (qr : Bool) (op : Int) (aa tc rd ra : Bool) (z rc : Int) (qs : List S40) (an ns ar : List S53) (h1 : qs.length ≤ 1000000) (h2 : an.length ≤ 1000000) (h3 : ns.length ≤ 1000000) (h4 : ar.length ≤ 1000000) :
    Ev (fun k => wimplelaw0_SameMsg.f k id qr op aa tc rd ra z rc qs an ns ar id qr op aa tc rd ra z rc qs an ns ar) true :=
  Ev.pos (by simp) (Ev.bind (sameQ qs h1) (Ev.pos rfl (Ev.bind (sameR an h2) (Ev.pos rfl (Ev.bind (sameR ns h3) (Ev.pos rfl (Ev.bind (sameR ar h4) (Ev.now _))))))))
theorem small_map {l : List S53} (h : ∀ x ∈ l, x.f4.size ≤ 9223372036854775000) : smallB (l.map wm_R4) = true := by
  unfold smallB
  rw [List.all_eq_true]
  intro r hr
  obtain ⟨x, hx, rfl⟩ := List.mem_map.1 hr
  exact decide_eq_true (h x hx)
theorem putS_size (m : MsgV) : (putS m).size ≤ 4096 := by
  by_cases H : putOk m = true ∧ (putEnd m).lg = false
  · obtain ⟨s1, s2, s3, s4⟩ := put_S H.1 H.2
    rw [s1]; exact s4
  · unfold putS
    by_cases h : putOk m = true
    · rw [if_pos h]
      have hl : (putEnd m).lg = true := by
        cases e : (putEnd m).lg with
        | true => rfl
        | false => exact absurd ⟨h, e⟩ H
      rw [if_pos hl]; decide
    · rw [if_neg h]; decide
theorem len_cases (s : ByteArray) : ∃ g : Got, Ev (fun k => getV k s) g ∧ g.qs.length ≤ 64 ∧ g.an.length ≤ 64 ∧ g.ns.length ≤ 64 ∧ g.ar.length ≤ 64 := by
  obtain ⟨g, hg, ht⟩ := getV_cases s
  refine ⟨g, hg, ?_⟩
  rcases ht with rfl | ⟨he, hz, hok, _⟩
  · exact ⟨Nat.zero_le _, Nat.zero_le _, Nat.zero_le _, Nat.zero_le _⟩
  · obtain ⟨_, _, n, _⟩ := putOk_parts hok
    exact n
theorem rep_same {g : Got} (h : g.qs.length ≤ 64 ∧ g.an.length ≤ 64 ∧ g.ns.length ≤ 64 ∧ g.ar.length ≤ 64) : (repG g).qs.length ≤ 64 ∧ (repG g).an.length ≤ 64 ∧ (repG g).ns.length ≤ 64 ∧ (repG g).ar.length ≤ 64 := by
  unfold repG
  split
  · exact h
  · exact ⟨by decide, by decide, by decide, by decide⟩
theorem awake : Ev (fun k => wimplelaw20_awake.f k) true := Ev.of wimplelaw20_awake.mono (k := 60) (by decide +kernel)
end Go.Proofs.Ytjklgdpffmaamaa.ReplyPLs

namespace Go.Proofs.Ytjklgdpffmaamaa.RepliesW
open Go.RowKit Go.PlainAid Go.Maps Go.Proofs.Ytjklgdpffmaamaa.Base Go.Proofs.Ytjklgdpffmaamaa.Oct Go.Proofs.Ytjklgdpffmaamaa.Nm Go.Proofs.Ytjklgdpffmaamaa.Wm Go.Proofs.Ytjklgdpffmaamaa.PLs Go.Proofs.Ytjklgdpffmaamaa.ReplyPLs Go.Proofs.Ytjklgdpffmaamaa.OkzLs
open Go.Proofs.YtjklgdpffmaamaaW.PrintWords (blk_cell blk_below blk_put blk_frozen blk_ne blk_new blk_lt blk_grown LeO Ev Kd Kd.R_reads')
set_option linter.unusedVariables false
set_option linter.unusedSimpArgs false
def sQ (x : Qn) : S40 := ⟨x.name, x.type, x.cls⟩
def sR (x : Rr) : S53 := ⟨x.name, x.type, x.cls, x.ttl, x.data⟩
/-- The rows of what was read lie in a world. -/
structure Holds (W : World) (g : Got) (vq va vn vr : Value) : Prop where
  q : W.ownsRow 0 40 3 vq g.qs.length (cellsQ g.qs)
  a : W.ownsRow 0 53 5 va g.an.length (cellsR g.an)
  n : W.ownsRow 0 53 5 vn g.ns.length (cellsR g.ns)
  r : W.ownsRow 0 53 5 vr g.ar.length (cellsR g.ar)
theorem Holds.below {W W' : World} {g : Got} {vq va vn vr : Value} (h : Holds W g vq va vn vr) (b : Below W.heap.size W W') : Holds W' g vq va vn vr :=
  ⟨Sl.own_below h.q b, Sl.own_below h.a b, Sl.own_below h.n b, Sl.own_below h.r b⟩
theorem got_holds {s : ByteArray} {w w' : World} {g : Got} {e : Ending} (h : GetPost s w g e w') : ∃ Aq Aqc Aa Aac An Anc Ar Arc, e = .returned (.tuple #[.agg #[.int .i64 g.h.id, .bool g.h.qr, .int .i64 g.h.op, .bool g.h.aa, .bool g.h.tc, .bool g.h.rd, .bool g.h.ra, .int .i64 g.h.z, .int .i64 g.h.rc, .slice Aq g.qs.length Aqc, .slice Aa g.an.length Aac, .slice An g.ns.length Anc, .slice Ar g.ar.length Arc], .int .i64 g.e]) ∧ Holds w' g (.slice Aq g.qs.length Aqc) (.slice Aa g.an.length Aac) (.slice An g.ns.length Anc) (.slice Ar g.ar.length Arc) ∧ Below w.heap.size w w' := by
  obtain ⟨vq, va, vn, vr, rfl, hq, ha, hn, hr, _, _, _, hb⟩ := h
  obtain ⟨Aq, cq, rfl⟩ := Sl.own_slice hq
  obtain ⟨Aa, ca, rfl⟩ := Sl.own_slice ha
  obtain ⟨An, cn, rfl⟩ := Sl.own_slice hn
  obtain ⟨Ar, cr, rfl⟩ := Sl.own_slice hr
  exact ⟨Aq, cq, Aa, ca, An, cn, Ar, cr, rfl, ⟨own_lower hq (Nat.zero_le _), own_lower ha (Nat.zero_le _), own_lower hn (Nat.zero_le _), own_lower hr (Nat.zero_le _)⟩, hb⟩
theorem qC {w : World} {A : Option Addr} {c : Nat} {qs : List Qn} (h : w.ownsRow 0 40 3 (.slice A qs.length c) qs.length (cellsQ qs)) : qs.length ≤ c ∧ Kd.C k40 w A (qs.map sQ).length (qs.map sQ) := by
  obtain ⟨_, h1, h2⟩ := Kd.R_reads' (qkd k40 40 sQ (fun w base ok q => k40_mkM w base ok (sQ q)) rfl h (ok := fun _ => True) (fun _ _ => trivial))
  exact ⟨h1, h2⟩
theorem rC {w : World} {A : Option Addr} {c : Nat} {qs : List Rr} (h : w.ownsRow 0 53 5 (.slice A qs.length c) qs.length (cellsR qs)) : qs.length ≤ c ∧ Kd.C k53 w A (qs.map sR).length (qs.map sR) := by
  obtain ⟨_, h1, h2⟩ := Kd.R_reads' (rkd k53 53 sR (fun w base ok q => k53_mkM w base ok (sR q)) rfl h (ok := fun _ => True) (fun _ _ => trivial))
  exact ⟨h1, h2⟩
theorem same2 {W : World} {g : Got} (hl : g.qs.length ≤ 64 ∧ g.an.length ≤ 64 ∧ g.ns.length ≤ 64 ∧ g.ar.length ≤ 64) {Aq Aa An Ar Bq Ba Bn Br : Option Addr} {Aqc Aac Anc Arc Bqc Bac Bnc Brc : Nat}
    (h : Holds W g (.slice Aq g.qs.length Aqc) (.slice Aa g.an.length Aac) (.slice An g.ns.length Anc) (.slice Ar g.ar.length Arc)) (k : Holds W g (.slice Bq g.qs.length Bqc) (.slice Ba g.an.length Bac) (.slice Bn g.ns.length Bnc) (.slice Br g.ar.length Brc)) :
    Calls Try.prog 20 #[.agg #[.int .i64 g.h.id, .bool g.h.qr, .int .i64 g.h.op, .bool g.h.aa, .bool g.h.tc, .bool g.h.rd, .bool g.h.ra, .int .i64 g.h.z, .int .i64 g.h.rc, .slice Aq g.qs.length Aqc, .slice Aa g.an.length Aac, .slice An g.ns.length Anc, .slice Ar g.ar.length Arc], .agg #[.int .i64 g.h.id, .bool g.h.qr, .int .i64 g.h.op, .bool g.h.aa, .bool g.h.tc, .bool g.h.rd, .bool g.h.ra, .int .i64 g.h.z, .int .i64 g.h.rc, .slice Bq g.qs.length Bqc, .slice Ba g.an.length Bac, .slice Bn g.ns.length Bnc, .slice Br g.ar.length Brc]] W fun e w' => e = .returned (.bool true) ∧ Below W.heap.size W w' := by
  obtain ⟨K, hK⟩ := sameM g.h.id g.h.qr g.h.op g.h.aa g.h.tc g.h.rd g.h.ra g.h.z g.h.rc (g.qs.map sQ) (g.an.map sR) (g.ns.map sR) (g.ar.map sR) (by rw [List.length_map]; omega) (by rw [List.length_map]; omega) (by rw [List.length_map]; omega) (by rw [List.length_map]; omega)
  have := wimplelaw0_SameMsg.calls K g.h.id g.h.qr g.h.op g.h.aa g.h.tc g.h.rd g.h.ra g.h.z g.h.rc Aq Aqc (g.qs.map sQ) Aa Aac (g.an.map sR) An Anc (g.ns.map sR) Ar Arc (g.ar.map sR) g.h.id g.h.qr g.h.op g.h.aa g.h.tc g.h.rd g.h.ra g.h.z g.h.rc Bq Bqc (g.qs.map sQ) Ba Bac (g.an.map sR) Bn Bnc (g.ns.map sR) Br Brc (g.ar.map sR) true W
    (qC h.q).2 (by rw [List.length_map]; exact (qC h.q).1) (rC h.a).2 (by rw [List.length_map]; exact (rC h.a).1) (rC h.n).2 (by rw [List.length_map]; exact (rC h.n).1) (rC h.r).2 (by rw [List.length_map]; exact (rC h.r).1)
    (qC k.q).2 (by rw [List.length_map]; exact (qC k.q).1) (rC k.a).2 (by rw [List.length_map]; exact (rC k.a).1) (rC k.n).2 (by rw [List.length_map]; exact (rC k.n).1) (rC k.r).2 (by rw [List.length_map]; exact (rC k.r).1) (hK K (Nat.le_refl _))
  simpa only [List.length_map] using this
set_option maxHeartbeats 8000000 in
set_option maxRecDepth 100000 in
theorem walk (s : ByteArray) (m : MsgV) (w : World) (hm : m.Lies w) (hs : s.size ≤ 9223372036854775000) : Calls Try.prog 3 #[.string s, .agg m.cells] w fun e w' => e = .returned (.bool true) ∧ Below w.heap.size w w' := by
  obtain ⟨g, hg, hl⟩ := len_cases s
  obtain ⟨g2, hg2, hl2⟩ := len_cases (putS m)
  have hz := putS_size m
  have hz2 : (putS m).size ≤ 9223372036854775000 := by omega
  have L1 := rep_same hl
  have L2 := rep_same hl2
  obtain ⟨K, hK⟩ := Ev.rounds awake
  have ka := fun w => wimplelaw20_awake.calls K true w hK
  have k1 := fun w => replyc s w hs hg
  have k2 := fun w => rreplyc s w hs hg
  have k3 := fun w => replyc (putS m) w hz2 hg2
  have k4 := fun w => rreplyc (putS m) w hz2 hg2
  have kp := rputc m
  generalize repG g = G at *
  generalize repG g2 = H at *
  generalize putS m = t at *
  generalize putE m = te at *
  clear hg hg2 hl hl2 hz hz2 hK hs
  have n1 := fun w => Hd.numc G.e w
  have n2 := fun w => Hd.numc H.e w
  have q1 : (G.e == G.e) = true := by simp
  have q2 : (H.e == H.e) = true := by simp
  have Bx : Below w.heap.size w (w.alloc (.cells m.cells 27)) := (Below.refl _ _).alloc (Nat.le_refl _) _
  have b3 := blk_new w (.cells m.cells 27)
  have hm1 := hm.below Bx
  go_enter Try.func3, Try.ntmps3
  go_wp2_with fail
  generalize w.alloc (.cells m.cells 27) = w1 at *
  have x3 : w.heap.size < w1.heap.size := blk_lt b3
  refine (k1 _).mono ?_
  rintro e w2 hh
  obtain ⟨Aq, Aqc, Aa, Aac, An, Anc, Ar, Arc, rfl, HA, hb⟩ := got_holds hh
  replace Bx := Bx.trans (hb.mono Bx.size)
  replace b3 := blk_below b3 hb
  replace hm1 := hm1.below hb
  have hb2 : Below w2.heap.size w2 (w2.alloc (.cells #[.int .i64 G.h.id, .bool G.h.qr, .int .i64 G.h.op, .bool G.h.aa, .bool G.h.tc, .bool G.h.rd, .bool G.h.ra, .int .i64 G.h.z, .int .i64 G.h.rc, .slice Aq G.qs.length Aqc, .slice Aa G.an.length Aac, .slice An G.ns.length Anc, .slice Ar G.ar.length Arc] 27)) := (Below.refl _ _).alloc (Nat.le_refl _) _
  have bA := blk_new w2 (.cells #[.int .i64 G.h.id, .bool G.h.qr, .int .i64 G.h.op, .bool G.h.aa, .bool G.h.tc, .bool G.h.rd, .bool G.h.ra, .int .i64 G.h.z, .int .i64 G.h.rc, .slice Aq G.qs.length Aqc, .slice Aa G.an.length Aac, .slice An G.ns.length Anc, .slice Ar G.ar.length Arc] 27)
  clear hh hb k1
  go_upto_region 2 with (fail)
  replace Bx := Bx.trans (hb2.mono Bx.size)
  replace b3 := blk_below b3 hb2
  replace hm1 := hm1.below hb2
  replace HA := HA.below hb2
  clear hb2
  generalize w2.alloc (.cells #[.int .i64 G.h.id, .bool G.h.qr, .int .i64 G.h.op, .bool G.h.aa, .bool G.h.tc, .bool G.h.rd, .bool G.h.ra, .int .i64 G.h.z, .int .i64 G.h.rc, .slice Aq G.qs.length Aqc, .slice Aa G.an.length Aac, .slice An G.ns.length Anc, .slice Ar G.ar.length Arc] 27) = w3 at *
  obtain ⟨gA, hgA⟩ : ∃ k, k = w2.heap.size := ⟨_, rfl⟩
  rw [← hgA] at bA ⊢
  clear hgA
  go_wp2_with fail
  refine (k2 _).mono ?_
  rintro e w4 hh
  obtain ⟨Bq, Bqc, Ba, Bac, Bn, Bnc, Br, Brc, rfl, HB, hb⟩ := got_holds hh
  replace Bx := Bx.trans (hb.mono Bx.size)
  replace b3 := blk_below b3 hb
  replace bA := blk_below bA hb
  replace hm1 := hm1.below hb
  replace HA := HA.below hb
  have hb2 : Below w4.heap.size w4 (w4.alloc (.cells #[.int .i64 G.h.id, .bool G.h.qr, .int .i64 G.h.op, .bool G.h.aa, .bool G.h.tc, .bool G.h.rd, .bool G.h.ra, .int .i64 G.h.z, .int .i64 G.h.rc, .slice Bq G.qs.length Bqc, .slice Ba G.an.length Bac, .slice Bn G.ns.length Bnc, .slice Br G.ar.length Brc] 27)) := (Below.refl _ _).alloc (Nat.le_refl _) _
  have bB := blk_new w4 (.cells #[.int .i64 G.h.id, .bool G.h.qr, .int .i64 G.h.op, .bool G.h.aa, .bool G.h.tc, .bool G.h.rd, .bool G.h.ra, .int .i64 G.h.z, .int .i64 G.h.rc, .slice Bq G.qs.length Bqc, .slice Ba G.an.length Bac, .slice Bn G.ns.length Bnc, .slice Br G.ar.length Brc] 27)
  clear hh hb k2
  go_upto_region 3 with (fail)
  replace Bx := Bx.trans (hb2.mono Bx.size)
  replace b3 := blk_below b3 hb2
  replace bA := blk_below bA hb2
  replace hm1 := hm1.below hb2
  replace HA := HA.below hb2
  replace HB := HB.below hb2
  clear hb2
  generalize w4.alloc (.cells #[.int .i64 G.h.id, .bool G.h.qr, .int .i64 G.h.op, .bool G.h.aa, .bool G.h.tc, .bool G.h.rd, .bool G.h.ra, .int .i64 G.h.z, .int .i64 G.h.rc, .slice Bq G.qs.length Bqc, .slice Ba G.an.length Bac, .slice Bn G.ns.length Bnc, .slice Br G.ar.length Brc] 27) = w5 at *
  obtain ⟨gB, hgB⟩ : ∃ k, k = w4.heap.size := ⟨_, rfl⟩
  rw [← hgB] at bB ⊢
  clear hgB
  have c0 : w5.cell? ⟨w.heap.size, 0, none⟩ = some (.int .i64 m.h.id) := (blk_cell b3 0).trans rfl
  have c1 : w5.cell? ⟨w.heap.size, 1, none⟩ = some (.bool m.h.qr) := (blk_cell b3 1).trans rfl
  have c2 : w5.cell? ⟨w.heap.size, 2, none⟩ = some (.int .i64 m.h.op) := (blk_cell b3 2).trans rfl
  have c3 : w5.cell? ⟨w.heap.size, 3, none⟩ = some (.bool m.h.aa) := (blk_cell b3 3).trans rfl
  have c4 : w5.cell? ⟨w.heap.size, 4, none⟩ = some (.bool m.h.tc) := (blk_cell b3 4).trans rfl
  have c5 : w5.cell? ⟨w.heap.size, 5, none⟩ = some (.bool m.h.rd) := (blk_cell b3 5).trans rfl
  have c6 : w5.cell? ⟨w.heap.size, 6, none⟩ = some (.bool m.h.ra) := (blk_cell b3 6).trans rfl
  have c7 : w5.cell? ⟨w.heap.size, 7, none⟩ = some (.int .i64 m.h.z) := (blk_cell b3 7).trans rfl
  have c8 : w5.cell? ⟨w.heap.size, 8, none⟩ = some (.int .i64 m.h.rc) := (blk_cell b3 8).trans rfl
  have c9 : w5.cell? ⟨w.heap.size, 9, none⟩ = some (.slice m.Aq m.qs.length m.cq) := (blk_cell b3 9).trans rfl
  have c10 : w5.cell? ⟨w.heap.size, 10, none⟩ = some (.slice m.Aa m.an.length m.ca) := (blk_cell b3 10).trans rfl
  have c11 : w5.cell? ⟨w.heap.size, 11, none⟩ = some (.slice m.An m.ns.length m.cn) := (blk_cell b3 11).trans rfl
  have c12 : w5.cell? ⟨w.heap.size, 12, none⟩ = some (.slice m.Ar m.ar.length m.cr) := (blk_cell b3 12).trans rfl
  go_wp2_with fail
  refine (kp w5 hm1).mono ?_
  rintro e w6 ⟨rfl, hb⟩
  replace Bx := Bx.trans (hb.mono Bx.size)
  replace bA := blk_below bA hb
  replace bB := blk_below bB hb
  replace HA := HA.below hb
  replace HB := HB.below hb
  clear hb kp hm1 b3 hm c0 c1 c2 c3 c4 c5 c6 c7 c8 c9 c10 c11 c12
  go_wp2_with fail
  refine (k3 _).mono ?_
  rintro e w7 hh
  obtain ⟨Cq, Cqc, Ca, Cac, Cn, Cnc, Cr, Crc, rfl, HC, hb⟩ := got_holds hh
  replace Bx := Bx.trans (hb.mono Bx.size)
  replace bA := blk_below bA hb
  replace bB := blk_below bB hb
  replace HA := HA.below hb
  replace HB := HB.below hb
  have hb2 : Below w7.heap.size w7 (w7.alloc (.cells #[.int .i64 H.h.id, .bool H.h.qr, .int .i64 H.h.op, .bool H.h.aa, .bool H.h.tc, .bool H.h.rd, .bool H.h.ra, .int .i64 H.h.z, .int .i64 H.h.rc, .slice Cq H.qs.length Cqc, .slice Ca H.an.length Cac, .slice Cn H.ns.length Cnc, .slice Cr H.ar.length Crc] 27)) := (Below.refl _ _).alloc (Nat.le_refl _) _
  have bC := blk_new w7 (.cells #[.int .i64 H.h.id, .bool H.h.qr, .int .i64 H.h.op, .bool H.h.aa, .bool H.h.tc, .bool H.h.rd, .bool H.h.ra, .int .i64 H.h.z, .int .i64 H.h.rc, .slice Cq H.qs.length Cqc, .slice Ca H.an.length Cac, .slice Cn H.ns.length Cnc, .slice Cr H.ar.length Crc] 27)
  clear hh hb k3
  go_upto_region 5 with (fail)
  replace Bx := Bx.trans (hb2.mono Bx.size)
  replace bA := blk_below bA hb2
  replace bB := blk_below bB hb2
  replace HA := HA.below hb2
  replace HB := HB.below hb2
  replace HC := HC.below hb2
  clear hb2
  generalize w7.alloc (.cells #[.int .i64 H.h.id, .bool H.h.qr, .int .i64 H.h.op, .bool H.h.aa, .bool H.h.tc, .bool H.h.rd, .bool H.h.ra, .int .i64 H.h.z, .int .i64 H.h.rc, .slice Cq H.qs.length Cqc, .slice Ca H.an.length Cac, .slice Cn H.ns.length Cnc, .slice Cr H.ar.length Crc] 27) = w8 at *
  obtain ⟨gC, hgC⟩ : ∃ k, k = w7.heap.size := ⟨_, rfl⟩
  rw [← hgC] at bC ⊢
  clear hgC
  go_wp2_with fail
  refine (k4 _).mono ?_
  rintro e w9 hh
  obtain ⟨Dq, Dqc, Da, Dac, Dn, Dnc, Dr, Drc, rfl, HD, hb⟩ := got_holds hh
  replace Bx := Bx.trans (hb.mono Bx.size)
  replace bA := blk_below bA hb
  replace bB := blk_below bB hb
  replace bC := blk_below bC hb
  replace HA := HA.below hb
  replace HB := HB.below hb
  replace HC := HC.below hb
  have hb2 : Below w9.heap.size w9 (w9.alloc (.cells #[.int .i64 H.h.id, .bool H.h.qr, .int .i64 H.h.op, .bool H.h.aa, .bool H.h.tc, .bool H.h.rd, .bool H.h.ra, .int .i64 H.h.z, .int .i64 H.h.rc, .slice Dq H.qs.length Dqc, .slice Da H.an.length Dac, .slice Dn H.ns.length Dnc, .slice Dr H.ar.length Drc] 27)) := (Below.refl _ _).alloc (Nat.le_refl _) _
  have bD := blk_new w9 (.cells #[.int .i64 H.h.id, .bool H.h.qr, .int .i64 H.h.op, .bool H.h.aa, .bool H.h.tc, .bool H.h.rd, .bool H.h.ra, .int .i64 H.h.z, .int .i64 H.h.rc, .slice Dq H.qs.length Dqc, .slice Da H.an.length Dac, .slice Dn H.ns.length Dnc, .slice Dr H.ar.length Drc] 27)
  clear hh hb k4
  go_upto_region 6 with (fail)
  replace Bx := Bx.trans (hb2.mono Bx.size)
  replace bA := blk_below bA hb2
  replace bB := blk_below bB hb2
  replace bC := blk_below bC hb2
  replace HA := HA.below hb2
  replace HB := HB.below hb2
  replace HC := HC.below hb2
  replace HD := HD.below hb2
  clear hb2
  generalize w9.alloc (.cells #[.int .i64 H.h.id, .bool H.h.qr, .int .i64 H.h.op, .bool H.h.aa, .bool H.h.tc, .bool H.h.rd, .bool H.h.ra, .int .i64 H.h.z, .int .i64 H.h.rc, .slice Dq H.qs.length Dqc, .slice Da H.an.length Dac, .slice Dn H.ns.length Dnc, .slice Dr H.ar.length Drc] 27) = w10 at *
  obtain ⟨gD, hgD⟩ : ∃ k, k = w9.heap.size := ⟨_, rfl⟩
  rw [← hgD] at bD ⊢
  clear hgD
  have a0 : w10.cell? ⟨gA, 0, none⟩ = some (.int .i64 G.h.id) := (blk_cell bA 0).trans rfl
  have a1 : w10.cell? ⟨gA, 1, none⟩ = some (.bool G.h.qr) := (blk_cell bA 1).trans rfl
  have a2 : w10.cell? ⟨gA, 2, none⟩ = some (.int .i64 G.h.op) := (blk_cell bA 2).trans rfl
  have a3 : w10.cell? ⟨gA, 3, none⟩ = some (.bool G.h.aa) := (blk_cell bA 3).trans rfl
  have a4 : w10.cell? ⟨gA, 4, none⟩ = some (.bool G.h.tc) := (blk_cell bA 4).trans rfl
  have a5 : w10.cell? ⟨gA, 5, none⟩ = some (.bool G.h.rd) := (blk_cell bA 5).trans rfl
  have a6 : w10.cell? ⟨gA, 6, none⟩ = some (.bool G.h.ra) := (blk_cell bA 6).trans rfl
  have a7 : w10.cell? ⟨gA, 7, none⟩ = some (.int .i64 G.h.z) := (blk_cell bA 7).trans rfl
  have a8 : w10.cell? ⟨gA, 8, none⟩ = some (.int .i64 G.h.rc) := (blk_cell bA 8).trans rfl
  have a9 : w10.cell? ⟨gA, 9, none⟩ = some (.slice Aq G.qs.length Aqc) := (blk_cell bA 9).trans rfl
  have a10 : w10.cell? ⟨gA, 10, none⟩ = some (.slice Aa G.an.length Aac) := (blk_cell bA 10).trans rfl
  have a11 : w10.cell? ⟨gA, 11, none⟩ = some (.slice An G.ns.length Anc) := (blk_cell bA 11).trans rfl
  have a12 : w10.cell? ⟨gA, 12, none⟩ = some (.slice Ar G.ar.length Arc) := (blk_cell bA 12).trans rfl
  have b0 : w10.cell? ⟨gB, 0, none⟩ = some (.int .i64 G.h.id) := (blk_cell bB 0).trans rfl
  have b1 : w10.cell? ⟨gB, 1, none⟩ = some (.bool G.h.qr) := (blk_cell bB 1).trans rfl
  have b2 : w10.cell? ⟨gB, 2, none⟩ = some (.int .i64 G.h.op) := (blk_cell bB 2).trans rfl
  have b3 : w10.cell? ⟨gB, 3, none⟩ = some (.bool G.h.aa) := (blk_cell bB 3).trans rfl
  have b4 : w10.cell? ⟨gB, 4, none⟩ = some (.bool G.h.tc) := (blk_cell bB 4).trans rfl
  have b5 : w10.cell? ⟨gB, 5, none⟩ = some (.bool G.h.rd) := (blk_cell bB 5).trans rfl
  have b6 : w10.cell? ⟨gB, 6, none⟩ = some (.bool G.h.ra) := (blk_cell bB 6).trans rfl
  have b7 : w10.cell? ⟨gB, 7, none⟩ = some (.int .i64 G.h.z) := (blk_cell bB 7).trans rfl
  have b8 : w10.cell? ⟨gB, 8, none⟩ = some (.int .i64 G.h.rc) := (blk_cell bB 8).trans rfl
  have b9 : w10.cell? ⟨gB, 9, none⟩ = some (.slice Bq G.qs.length Bqc) := (blk_cell bB 9).trans rfl
  have b10 : w10.cell? ⟨gB, 10, none⟩ = some (.slice Ba G.an.length Bac) := (blk_cell bB 10).trans rfl
  have b11 : w10.cell? ⟨gB, 11, none⟩ = some (.slice Bn G.ns.length Bnc) := (blk_cell bB 11).trans rfl
  have b12 : w10.cell? ⟨gB, 12, none⟩ = some (.slice Br G.ar.length Brc) := (blk_cell bB 12).trans rfl
  go_wp2_with fail
  refine (same2 L1 HA HB).mono ?_
  rintro e w11 ⟨rfl, hb⟩
  replace Bx := Bx.trans (hb.mono Bx.size)
  replace bC := blk_below bC hb
  replace bD := blk_below bD hb
  replace HC := HC.below hb
  replace HD := HD.below hb
  clear hb HA HB bA bB a0 a1 a2 a3 a4 a5 a6 a7 a8 a9 a10 a11 a12 b0 b1 b2 b3 b4 b5 b6 b7 b8 b9 b10 b11 b12
  have c0 : w11.cell? ⟨gC, 0, none⟩ = some (.int .i64 H.h.id) := (blk_cell bC 0).trans rfl
  have c1 : w11.cell? ⟨gC, 1, none⟩ = some (.bool H.h.qr) := (blk_cell bC 1).trans rfl
  have c2 : w11.cell? ⟨gC, 2, none⟩ = some (.int .i64 H.h.op) := (blk_cell bC 2).trans rfl
  have c3 : w11.cell? ⟨gC, 3, none⟩ = some (.bool H.h.aa) := (blk_cell bC 3).trans rfl
  have c4 : w11.cell? ⟨gC, 4, none⟩ = some (.bool H.h.tc) := (blk_cell bC 4).trans rfl
  have c5 : w11.cell? ⟨gC, 5, none⟩ = some (.bool H.h.rd) := (blk_cell bC 5).trans rfl
  have c6 : w11.cell? ⟨gC, 6, none⟩ = some (.bool H.h.ra) := (blk_cell bC 6).trans rfl
  have c7 : w11.cell? ⟨gC, 7, none⟩ = some (.int .i64 H.h.z) := (blk_cell bC 7).trans rfl
  have c8 : w11.cell? ⟨gC, 8, none⟩ = some (.int .i64 H.h.rc) := (blk_cell bC 8).trans rfl
  have c9 : w11.cell? ⟨gC, 9, none⟩ = some (.slice Cq H.qs.length Cqc) := (blk_cell bC 9).trans rfl
  have c10 : w11.cell? ⟨gC, 10, none⟩ = some (.slice Ca H.an.length Cac) := (blk_cell bC 10).trans rfl
  have c11 : w11.cell? ⟨gC, 11, none⟩ = some (.slice Cn H.ns.length Cnc) := (blk_cell bC 11).trans rfl
  have c12 : w11.cell? ⟨gC, 12, none⟩ = some (.slice Cr H.ar.length Crc) := (blk_cell bC 12).trans rfl
  have d0 : w11.cell? ⟨gD, 0, none⟩ = some (.int .i64 H.h.id) := (blk_cell bD 0).trans rfl
  have d1 : w11.cell? ⟨gD, 1, none⟩ = some (.bool H.h.qr) := (blk_cell bD 1).trans rfl
  have d2 : w11.cell? ⟨gD, 2, none⟩ = some (.int .i64 H.h.op) := (blk_cell bD 2).trans rfl
  have d3 : w11.cell? ⟨gD, 3, none⟩ = some (.bool H.h.aa) := (blk_cell bD 3).trans rfl
  have d4 : w11.cell? ⟨gD, 4, none⟩ = some (.bool H.h.tc) := (blk_cell bD 4).trans rfl
  have d5 : w11.cell? ⟨gD, 5, none⟩ = some (.bool H.h.rd) := (blk_cell bD 5).trans rfl
  have d6 : w11.cell? ⟨gD, 6, none⟩ = some (.bool H.h.ra) := (blk_cell bD 6).trans rfl
  have d7 : w11.cell? ⟨gD, 7, none⟩ = some (.int .i64 H.h.z) := (blk_cell bD 7).trans rfl
  have d8 : w11.cell? ⟨gD, 8, none⟩ = some (.int .i64 H.h.rc) := (blk_cell bD 8).trans rfl
  have d9 : w11.cell? ⟨gD, 9, none⟩ = some (.slice Dq H.qs.length Dqc) := (blk_cell bD 9).trans rfl
  have d10 : w11.cell? ⟨gD, 10, none⟩ = some (.slice Da H.an.length Dac) := (blk_cell bD 10).trans rfl
  have d11 : w11.cell? ⟨gD, 11, none⟩ = some (.slice Dn H.ns.length Dnc) := (blk_cell bD 11).trans rfl
  have d12 : w11.cell? ⟨gD, 12, none⟩ = some (.slice Dr H.ar.length Drc) := (blk_cell bD 12).trans rfl
  go_wp2_with fail
  refine (n1 _).mono ?_
  rintro e w12 ⟨rfl, rfl⟩
  go_wp2_with fail
  refine (same2 L2 HC HD).mono ?_
  rintro e w13 ⟨rfl, hb⟩
  replace Bx := Bx.trans (hb.mono Bx.size)
  clear hb HC HD bC bD c0 c1 c2 c3 c4 c5 c6 c7 c8 c9 c10 c11 c12 d0 d1 d2 d3 d4 d5 d6 d7 d8 d9 d10 d11 d12
  go_wp2_with fail
  refine (n2 _).mono ?_
  rintro e w14 ⟨rfl, rfl⟩
  go_wp2_with fail
  refine (ka _).mono ?_
  rintro e w15 ⟨rfl, hb⟩
  replace Bx := Bx.trans (hb.mono Bx.size)
  go_wp2_with fail
  go_ret
  exact ⟨rfl, Bx⟩
set_option maxRecDepth 100000 in
/-- As the row wants it. -/
theorem hcalls (s : ByteArray) (x : S27) (W : World) (A1 : Option Addr) (c1 : Nat) (A2 : Option Addr) (c2 : Nat) (A3 : Option Addr) (c3 : Nat) (A4 : Option Addr) (c4 : Nat)
    (h1 : Kd.C k40 W A1 x.f1.length x.f1) (l1 : x.f1.length ≤ c1) (h2 : Kd.C k53 W A2 x.f2.length x.f2) (l2 : x.f2.length ≤ c2) (h3 : Kd.C k53 W A3 x.f3.length x.f3) (l3 : x.f3.length ≤ c3) (h4 : Kd.C k53 W A4 x.f4.length x.f4) (l4 : x.f4.length ≤ c4)
    (hs : s.size ≤ 140737488351232) (hx : ok27 x) :
    Calls Try.prog 3 #[.string s, .agg #[.int .i64 x.f0.f0, .bool x.f0.f1, .int .i64 x.f0.f2, .bool x.f0.f3, .bool x.f0.f4, .bool x.f0.f5, .bool x.f0.f6, .int .i64 x.f0.f7, .int .i64 x.f0.f8, .slice A1 x.f1.length c1, .slice A2 x.f2.length c2, .slice A3 x.f3.length c3, .slice A4 x.f4.length c4]] W fun e w' => e = .returned (.bool true) ∧ Below W.heap.size W w' := by
  have e2 : small (x.f2.map wm_R4) := small_of (small_map fun y hy => Nat.le_trans (hx.2.2.1.2 y hy).2.2.2.2 (by decide))
  have e3 : small (x.f3.map wm_R4) := small_of (small_map fun y hy => Nat.le_trans (hx.2.2.2.1.2 y hy).2.2.2.2 (by decide))
  have e4 : small (x.f4.map wm_R4) := small_of (small_map fun y hy => Nat.le_trans (hx.2.2.2.2.2 y hy).2.2.2.2 (by decide))
  have := walk s ⟨⟨x.f0.f0, x.f0.f1, x.f0.f2, x.f0.f3, x.f0.f4, x.f0.f5, x.f0.f6, x.f0.f7, x.f0.f8⟩, A1, c1, x.f1.map wm_Q4, A2, c2, x.f2.map wm_R4, A3, c3, x.f3.map wm_R4, A4, c4, x.f4.map wm_R4⟩ W
    ⟨qcells_of wm_Q4 h1 (fun x cs h => k40_open h), rcells_of wm_R4 h2 (fun x cs h => k53_open h), rcells_of wm_R4 h3 (fun x cs h => k53_open h), rcells_of wm_R4 h4 (fun x cs h => k53_open h),
      by rw [List.length_map]; exact l1, by rw [List.length_map]; exact l2, by rw [List.length_map]; exact l3, by rw [List.length_map]; exact l4, e2, e3, e4⟩ (Nat.le_trans hs (by decide))
  simp only [MsgV.cells, List.length_map] at this
  exact this
end Go.Proofs.Ytjklgdpffmaamaa.RepliesW

namespace Go.Proofs.Ytjklgdpffmaamaa.Forms20
open Go.RowKit Go.PlainAid Go.Maps Go.Proofs.Ytjklgdpffmaamaa.Base Go.Proofs.Ytjklgdpffmaamaa.Oct Go.Proofs.Ytjklgdpffmaamaa.Nm Go.Proofs.Ytjklgdpffmaamaa.Wm Go.Proofs.Ytjklgdpffmaamaa.PLs Go.Proofs.Ytjklgdpffmaamaa.ReplyPLs Go.Proofs.Ytjklgdpffmaamaa.OkzLs Go.Proofs.Ytjklgdpffmaamaa.RepliesW
open Go.Proofs.YtjklgdpffmaamaaW.PrintWords (blk_cell blk_below blk_put blk_frozen blk_ne blk_new blk_lt blk_grown LeO Ev Kd Kd.R_reads' Kd.R_slice Kd.R_set Kd.C_nil Kd.C_below)
open Go.Proofs.YtjklgdpffmaamaaW.PrintLast
set_option linter.unusedVariables false
set_option linter.unusedSimpArgs false
/-- What was written and read again; with a byte more it is none. -/
theorem forms {m : MsgV} (h : putE m = 0) : Ev (fun k => getV k (putS m)) ⟨m.h, m.qs, m.an, m.ns, m.ar, 0⟩ ∧ (∃ g, Ev (fun k => getV k (putS m ++ ⟨#[97]⟩)) g ∧ g.e ≠ 0) ∧ (m.qs.length ≤ 64 ∧ m.an.length ≤ 64 ∧ m.ns.length ≤ 64 ∧ m.ar.length ≤ 64) ∧ (putS m).size ≤ 4096 := by
  have H : putOk m = true ∧ (putEnd m).lg = false := by
    by_cases H : putOk m = true ∧ (putEnd m).lg = false
    · exact H
    · obtain ⟨_, s2⟩ := put_err H
      rcases s2 with ⟨h', _⟩ | ⟨h', _⟩ <;> rw [h'] at h <;> exact absurd h (by decide)
  obtain ⟨s1, s2, s3, s4⟩ := put_S H.1 H.2
  obtain ⟨_, _, hn, _⟩ := putOk_parts H.1
  rw [s1]
  refine ⟨?_, ?_, hn, s4⟩
  · have := get_put H.1 H.2 ⟨#[]⟩ (by rw [app_nil]; exact s4)
    rwa [app_nil, if_pos (show (⟨#[]⟩ : ByteArray).size = 0 from rfl)] at this
  · by_cases hz : ((putEnd m).S ++ ⟨#[97]⟩).size ≤ 4096
    · have := get_put H.1 H.2 ⟨#[97]⟩ hz
      rw [if_neg (show ¬ (⟨#[97]⟩ : ByteArray).size = 0 by decide)] at this
      exact ⟨_, this, show ¬ (700 : Int) = 0 by decide⟩
    · exact ⟨got0 701, Pu.Ev.pos (by omega) (Ev.now _), show ¬ (701 : Int) = 0 by decide⟩
theorem rep_bad {g : Got} (h : g.e ≠ 0) : repG g = got0 2000 := if_neg (fun k => h k.1)
theorem sQw (l : List S40) : (l.map wm_Q4).map sQ = l := by
  induction l with
  | nil => rfl
  | cons x l ih => rw [List.map_cons, List.map_cons, ih]; rfl
theorem sRw (l : List S53) : (l.map wm_R4).map sR = l := by
  induction l with
  | nil => rfl
  | cons x l ih => rw [List.map_cons, List.map_cons, ih]; rfl
theorem repG_eq (h : Hd.Head) (qs : List Qn) (an ns ar : List Rr) : repG ⟨h, qs, an, ns, ar, 0⟩ = if (h.qr && (h.op == 0) && decide (qs.length = 1)) = true then ⟨h, qs, an, ns, ar, 0⟩ else got0 2000 := by
  unfold repG
  by_cases c : (h.qr && (h.op == 0) && decide (qs.length = 1)) = true
  · rw [if_pos c]
    rw [Bool.and_eq_true, Bool.and_eq_true, beq_iff_eq, decide_eq_true_iff] at c
    exact if_pos ⟨rfl, c.1.1, c.1.2, by rw [c.2]; rfl⟩
  · rw [if_neg c]
    refine if_neg (fun d => c ?_)
    rw [Bool.and_eq_true, Bool.and_eq_true, beq_iff_eq, decide_eq_true_iff]
    exact ⟨⟨d.2.1, d.2.2.1⟩, by have := d.2.2.2; simp only at this; omega⟩
theorem sameX {W : World} {g : Got} (hl : g.qs.length ≤ 64 ∧ g.an.length ≤ 64 ∧ g.ns.length ≤ 64 ∧ g.ar.length ≤ 64) {Aq Aa An Ar Bq Ba Bn Br : Option Addr} {Aqc Aac Anc Arc Bqc Bac Bnc Brc : Nat}
    (h : Holds W g (.slice Aq g.qs.length Aqc) (.slice Aa g.an.length Aac) (.slice An g.ns.length Anc) (.slice Ar g.ar.length Arc))
    {qs : List S40} {an ns ar : List S53} (eq : g.qs = qs.map wm_Q4) (ea : g.an = an.map wm_R4) (en : g.ns = ns.map wm_R4) (er : g.ar = ar.map wm_R4)
    (k1 : Kd.C k40 W Bq qs.length qs) (l1 : qs.length ≤ Bqc) (k2 : Kd.C k53 W Ba an.length an) (l2 : an.length ≤ Bac) (k3 : Kd.C k53 W Bn ns.length ns) (l3 : ns.length ≤ Bnc) (k4 : Kd.C k53 W Br ar.length ar) (l4 : ar.length ≤ Brc) :
    Calls Try.prog 20 #[.agg #[.int .i64 g.h.id, .bool g.h.qr, .int .i64 g.h.op, .bool g.h.aa, .bool g.h.tc, .bool g.h.rd, .bool g.h.ra, .int .i64 g.h.z, .int .i64 g.h.rc, .slice Aq g.qs.length Aqc, .slice Aa g.an.length Aac, .slice An g.ns.length Anc, .slice Ar g.ar.length Arc], .agg #[.int .i64 g.h.id, .bool g.h.qr, .int .i64 g.h.op, .bool g.h.aa, .bool g.h.tc, .bool g.h.rd, .bool g.h.ra, .int .i64 g.h.z, .int .i64 g.h.rc, .slice Bq qs.length Bqc, .slice Ba an.length Bac, .slice Bn ns.length Bnc, .slice Br ar.length Brc]] W fun e w' => e = .returned (.bool true) ∧ Below W.heap.size W w' := by
  obtain ⟨K, hK⟩ := sameM g.h.id g.h.qr g.h.op g.h.aa g.h.tc g.h.rd g.h.ra g.h.z g.h.rc (g.qs.map sQ) (g.an.map sR) (g.ns.map sR) (g.ar.map sR) (by rw [List.length_map]; omega) (by rw [List.length_map]; omega) (by rw [List.length_map]; omega) (by rw [List.length_map]; omega)
  have e1 : g.qs.map sQ = qs := by rw [eq, sQw]
  have e2 : g.an.map sR = an := by rw [ea, sRw]
  have e3 : g.ns.map sR = ns := by rw [en, sRw]
  have e4 : g.ar.map sR = ar := by rw [er, sRw]
  have := wimplelaw0_SameMsg.calls K g.h.id g.h.qr g.h.op g.h.aa g.h.tc g.h.rd g.h.ra g.h.z g.h.rc Aq Aqc (g.qs.map sQ) Aa Aac (g.an.map sR) An Anc (g.ns.map sR) Ar Arc (g.ar.map sR) g.h.id g.h.qr g.h.op g.h.aa g.h.tc g.h.rd g.h.ra g.h.z g.h.rc Bq Bqc (g.qs.map sQ) Ba Bac (g.an.map sR) Bn Bnc (g.ns.map sR) Br Brc (g.ar.map sR) true W
    (qC h.q).2 (by rw [List.length_map]; exact (qC h.q).1) (rC h.a).2 (by rw [List.length_map]; exact (rC h.a).1) (rC h.n).2 (by rw [List.length_map]; exact (rC h.n).1) (rC h.r).2 (by rw [List.length_map]; exact (rC h.r).1)
    (by rw [e1]; exact k1) (by rw [e1]; exact l1) (by rw [e2]; exact k2) (by rw [e2]; exact l2) (by rw [e3]; exact k3) (by rw [e3]; exact l3) (by rw [e4]; exact k4) (by rw [e4]; exact l4) (hK K (Nat.le_refl _))
  have z1 : g.qs.length = qs.length := by rw [eq, List.length_map]
  have z2 : g.an.length = an.length := by rw [ea, List.length_map]
  have z3 : g.ns.length = ns.length := by rw [en, List.length_map]
  have z4 : g.ar.length = ar.length := by rw [er, List.length_map]
  rw [← z1, ← z2, ← z3, ← z4]
  simpa only [List.length_map] using this
def q7 : Qn := ⟨⟨#[1, 97, 0]⟩, 1, 1⟩
theorem qCb {w : World} {b : Nat} {A : Option Addr} {c : Nat} {qs : List Qn} (h : w.ownsRow b 40 3 (.slice A qs.length c) qs.length (cellsQ qs)) : qs.length ≤ c ∧ Kd.C k40 w A (qs.map sQ).length (qs.map sQ) := qC (own_lower h (Nat.zero_le _))
/-- Where the message that is written lies. -/
structure Lay (m : MsgV) (w : World) (gx : Nat) (id : Int) (wc : World) (qr : Bool) (op : Int) (qv : Value) : Prop where
  blk : wc.heap[gx]? = some (.cells #[.int .i64 id, .bool qr, .int .i64 op, .bool true, .bool false, .bool false, .bool false, .int .i64 0, .int .i64 3, qv, .slice m.Aa m.an.length m.ca, .slice m.An m.ns.length m.cn, .slice m.Ar m.ar.length m.cr] 27 (0, 0))
  bel : Below w.heap.size w wc
  le : w.heap.size ≤ gx
set_option maxHeartbeats 2000000 in
set_option maxRecDepth 100000 in
theorem walk (wrong op : Int) (m : MsgV) (w : World) (hm : m.Lies w) (xa xn xr : List S53) (ea : m.an = xa.map wm_R4) (en : m.ns = xn.map wm_R4) (er : m.ar = xr.map wm_R4) (ka0 : Kd.C k53 w m.Aa xa.length xa) (kn0 : Kd.C k53 w m.An xn.length xn) (kr0 : Kd.C k53 w m.Ar xr.length xr) : Calls Try.prog 4 #[.int .i64 wrong, .int .i64 op, .agg m.cells] w fun e w' => e = .returned (.bool true) ∧ Below w.heap.size w w' := by
  obtain ⟨K, hK⟩ := Ev.rounds awake
  have ka := fun w => wimplelaw20_awake.calls K true w hK
  have EA := Lib.hid ea
  have EN := Lib.hid en
  have ER := Lib.hid er
  clear ea en er
  have Bx : Below w.heap.size w (w.alloc (.cells m.cells 27)) := (Below.refl _ _).alloc (Nat.le_refl _) _
  have b3 := blk_new w (.cells m.cells 27)
  have hm1 := hm.below Bx
  go_enter Try.func4, Try.ntmps4
  go_wp2_with fail
  refine (ka _).mono ?_
  rintro e w1 ⟨rfl, hb⟩
  replace Bx := Bx.trans (hb.mono Bx.size)
  replace b3 := blk_below b3 hb
  replace hm1 := hm1.below hb
  have hm0 := hm
  clear hb ka hK hm
  have c0 : w1.cell? ⟨w.heap.size, 0, none⟩ = some (.int .i64 m.h.id) := (blk_cell b3 0).trans rfl
  have c1 : w1.cell? ⟨w.heap.size, 1, none⟩ = some (.bool m.h.qr) := (blk_cell b3 1).trans rfl
  have c2 : w1.cell? ⟨w.heap.size, 2, none⟩ = some (.int .i64 m.h.op) := (blk_cell b3 2).trans rfl
  have c3 : w1.cell? ⟨w.heap.size, 3, none⟩ = some (.bool m.h.aa) := (blk_cell b3 3).trans rfl
  have c4 : w1.cell? ⟨w.heap.size, 4, none⟩ = some (.bool m.h.tc) := (blk_cell b3 4).trans rfl
  have c5 : w1.cell? ⟨w.heap.size, 5, none⟩ = some (.bool m.h.rd) := (blk_cell b3 5).trans rfl
  have c6 : w1.cell? ⟨w.heap.size, 6, none⟩ = some (.bool m.h.ra) := (blk_cell b3 6).trans rfl
  have c7 : w1.cell? ⟨w.heap.size, 7, none⟩ = some (.int .i64 m.h.z) := (blk_cell b3 7).trans rfl
  have c8 : w1.cell? ⟨w.heap.size, 8, none⟩ = some (.int .i64 m.h.rc) := (blk_cell b3 8).trans rfl
  have c9 : w1.cell? ⟨w.heap.size, 9, none⟩ = some (.slice m.Aq m.qs.length m.cq) := (blk_cell b3 9).trans rfl
  have c10 : w1.cell? ⟨w.heap.size, 10, none⟩ = some (.slice m.Aa m.an.length m.ca) := (blk_cell b3 10).trans rfl
  have c11 : w1.cell? ⟨w.heap.size, 11, none⟩ = some (.slice m.An m.ns.length m.cn) := (blk_cell b3 11).trans rfl
  have c12 : w1.cell? ⟨w.heap.size, 12, none⟩ = some (.slice m.Ar m.ar.length m.cr) := (blk_cell b3 12).trans rfl
  go_upto_if 27 with (fail)
  obtain ⟨id, hid⟩ : ∃ id, id = Go.bits .and .i64 op 65535 := ⟨_, rfl⟩
  rw [← hid]
  clear hid
  have sw := Bx.size
  have L0 : Lay m w w1.heap.size id ((w1.alloc (.cells #[.int .i64 id, .bool true, .int .i64 0, .bool true, .bool false, .bool false, .bool false, .int .i64 0, .int .i64 3, .slice (some ⟨w1.heap.size + 1, 0, none⟩) 1 1, .slice m.Aa m.an.length m.ca, .slice m.An m.ns.length m.cn, .slice m.Ar m.ar.length m.cr] 27)).alloc (.cells #[.string q7.name, .int .i64 q7.type, .int .i64 q7.cls] 40)) true 0 (.slice (some ⟨w1.heap.size + 1, 0, none⟩) 1 1) :=
    ⟨Go.Proofs.YtjklgdpffmaamaaW.PrintWords.blk_alloc (blk_new w1 _) _, (Bx.alloc sw _).alloc (by simp; omega) _, sw⟩
  have bq : ((w1.alloc (.cells #[.int .i64 id, .bool true, .int .i64 0, .bool true, .bool false, .bool false, .bool false, .int .i64 0, .int .i64 3, .slice (some ⟨w1.heap.size + 1, 0, none⟩) 1 1, .slice m.Aa m.an.length m.ca, .slice m.An m.ns.length m.cn, .slice m.Ar m.ar.length m.cr] 27)).alloc (.cells #[.string q7.name, .int .i64 q7.type, .int .i64 q7.cls] 40)).heap[w1.heap.size + 1]? = some (.cells #[.string q7.name, .int .i64 q7.type, .int .i64 q7.cls] 40 (0, 0)) := by
    have e : (w1.alloc (.cells #[.int .i64 id, .bool true, .int .i64 0, .bool true, .bool false, .bool false, .bool false, .int .i64 0, .int .i64 3, .slice (some ⟨w1.heap.size + 1, 0, none⟩) 1 1, .slice m.Aa m.an.length m.ca, .slice m.An m.ns.length m.cn, .slice m.Ar m.ar.length m.cr] 27)).heap.size = w1.heap.size + 1 := by simp
    have h := blk_new (w1.alloc (.cells #[.int .i64 id, .bool true, .int .i64 0, .bool true, .bool false, .bool false, .bool false, .int .i64 0, .int .i64 3, .slice (some ⟨w1.heap.size + 1, 0, none⟩) 1 1, .slice m.Aa m.an.length m.ca, .slice m.An m.ns.length m.cn, .slice m.Ar m.ar.length m.cr] 27)) (.cells #[.string q7.name, .int .i64 q7.type, .int .i64 q7.cls] 40)
    rw [e] at h
    exact h
  change Code.wp _ _ _ _ ((w1.alloc (.cells #[.int .i64 id, .bool true, .int .i64 0, .bool true, .bool false, .bool false, .bool false, .int .i64 0, .int .i64 3, .slice (some ⟨w1.heap.size + 1, 0, none⟩) 1 1, .slice m.Aa m.an.length m.ca, .slice m.An m.ns.length m.cn, .slice m.Ar m.ar.length m.cr] 27)).alloc (.cells #[.string q7.name, .int .i64 q7.type, .int .i64 q7.cls] 40))
  generalize (w1.alloc (.cells #[.int .i64 id, .bool true, .int .i64 0, .bool true, .bool false, .bool false, .bool false, .int .i64 0, .int .i64 3, .slice (some ⟨w1.heap.size + 1, 0, none⟩) 1 1, .slice m.Aa m.an.length m.ca, .slice m.An m.ns.length m.cn, .slice m.Ar m.ar.length m.cr] 27)).alloc (.cells #[.string q7.name, .int .i64 q7.type, .int .i64 q7.cls] 40) = w2 at *
  have hxq : w1.heap.size + 1 ≠ w1.heap.size := by omega
  have hgq : w.heap.size ≤ w1.heap.size + 1 := by omega
  generalize w1.heap.size + 1 = gq at *
  generalize w1.heap.size = gx at *
  clear c0 c1 c2 c3 c4 c5 c6 c7 c8 c9 c10 c11 c12 Bx b3 sw
  go_cut [8] (fun v8 wc => ∃ qr : Bool, v8 = .bool qr ∧ Lay m w gx id wc qr 0 (.slice (some ⟨gq, 0, none⟩) 1 1) ∧ wc.heap[gq]? = some (.cells #[.string q7.name, .int .i64 q7.type, .int .i64 q7.cls] 40 (0, 0)))
  case first =>
    have x1 : w2.cell? ⟨gx, 1, none⟩ = some (.bool true) := (blk_cell L0.blk 1).trans rfl
    have y1 := blk_frozen L0.blk 1
    cases hb : (Go.bits .and .i64 wrong 1 == 1) with
    | true =>
      go_wp2
      go_meet
      case rel => exact ⟨false, rfl, ⟨by have := blk_put L0.blk 1 (.bool false) rfl; simpa using this, L0.bel.setCell L0.le _, L0.le⟩, blk_set_ne (p := ⟨gx, 1, none⟩) bq hxq _⟩
    | false =>
      go_wp2
      go_meet
      case rel => exact ⟨true, rfl, L0, bq⟩
  case rest =>
    obtain ⟨qr, rfl, L1, bq1⟩ := hcut
    clear L0 bq
    go_upto_if 32 with (fail)
    obtain ⟨n7, hn7, hb7⟩ : ∃ n : Int, (0 ≤ n ∧ n ≤ 7) ∧ Go.bits .and .i64 op 7 = n := ⟨_, by rw [Pu.and_7]; omega, rfl⟩
    go_cut [8] (fun v8 wc => ∃ o : Int, (0 ≤ o ∧ o ≤ 8) ∧ v8 = .bool (qr && (o == 0)) ∧ Lay m w gx id wc qr o (.slice (some ⟨gq, 0, none⟩) 1 1) ∧ wc.heap[gq]? = some (.cells #[.string q7.name, .int .i64 q7.type, .int .i64 q7.cls] 40 (0, 0)))
    case first =>
      obtain ⟨h0, h7⟩ := hn7
      have x2 : wc.cell? ⟨gx, 2, none⟩ = some (.int .i64 0) := (blk_cell L1.blk 2).trans rfl
      have y2 := blk_frozen L1.blk 2
      cases hb : (Go.bits .and .i64 wrong 2 == 2) with
      | true =>
        go_wp2
        go_meet
        case rel => exact ⟨1 + n7, by omega, by rw [show (1 + n7 == 0) = false by simp; omega, Bool.and_false], ⟨by have := blk_put L1.blk 2 (.int .i64 (1 + n7)) rfl; simpa using this, L1.bel.setCell L1.le _, L1.le⟩, blk_set_ne (p := ⟨gx, 2, none⟩) bq1 hxq _⟩
      | false =>
        go_wp2
        go_meet
        case rel => exact ⟨0, by omega, by simp, L1, bq1⟩
    case rest =>
      obtain ⟨o, ho, rfl, L2, bq2⟩ := hcut
      clear L1 bq1 hn7 hb7
      go_upto_if 40 with (fail)
      go_cut [8] (fun v8 wc => ∃ (xs : List S40) (A : Option Addr) (c : Nat), (xs = [sQ q7] ∨ xs = [sQ q7, sQ q7]) ∧ v8 = .bool (qr && (o == 0) && decide (xs.length = 1)) ∧ Lay m w gx id wc qr o (.slice A xs.length c) ∧ xs.length ≤ c ∧ Kd.C k40 wc A xs.length xs)
      case first =>
        have own1 : wc.ownsRow w.heap.size 40 3 (.slice (some ⟨gq, 0, none⟩) 1 1) 1 (cellsQ [q7]) := ⟨rfl, .inr ⟨gq, 1, _, rfl, hgq, bq2, Nat.le_refl _, by decide, rfl, rfl⟩⟩
        cases hb : (Go.bits .and .i64 wrong 4 == 4) with
        | true =>
          go_upto_region 14 with (fail)
          have Bd : Below wc.heap.size wc wc.drew := (Below.refl _ _).drew
          have bqd := blk_below bq2 Bd
          have bxd := blk_below L2.blk Bd
          have ownd := Sl.own_below own1 Bd
          have HOd := qkd k40 40 sQ (fun w base ok q => k40_mkM w base ok (sQ q)) rfl ownd (ok := fun _ => True) (fun _ _ => trivial)
          have HBd : Below w.heap.size w wc.drew := L2.bel.drew
          refine start_ (n := 10) (S := fun w' => w'.cell? ⟨gx, 9, none⟩ = some (.slice (some ⟨gq, 0, none⟩) 1 1) ∧ w'.cell? ⟨gq, 0, none⟩ = some (.string q7.name) ∧ w'.cell? ⟨gq, 1, none⟩ = some (.int .i64 q7.type) ∧ w'.cell? ⟨gq, 2, none⟩ = some (.int .i64 q7.cls)) (ds := [7, 9]) #[false, false, false, false, false, false, false, false, false, false] (by kernel_rfl) rfl rfl ⟨(blk_cell bxd 9).trans rfl, (blk_cell bqd 0).trans rfl, (blk_cell bqd 1).trans rfl, (blk_cell bqd 2).trans rfl⟩ (fun hHeld => ?_)
          refine pure_ (i := 0) (N := some 41) (v := ?_) (a' := ?_) #[true, false, false, false, false, false, false, false, false, false] rfl rfl (by kernel_rfl) (fun _ _ _ h => h) (Or.inl ⟨by rfl, ?_⟩) ?_ ?_
          rotate_left
          · intro w'
            go_simp
            with_reducible rfl
          rotate_left
          · simp only [Act.put, List.setIfInBounds_toArray, List.set_cons_zero, List.set_cons_succ]
            rfl
          refine pure_ (i := 2) (N := some 43) (v := ?_) (a' := ?_) #[true, false, true, false, false, false, false, false, false, false] rfl rfl (by kernel_rfl) (fun _ _ _ h => h) (Or.inl ⟨by rfl, ?_⟩) ?_ ?_
          rotate_left
          · intro w'
            go_simp
            with_reducible rfl
          rotate_left
          · simp only [Act.put, List.setIfInBounds_toArray, List.set_cons_zero, List.set_cons_succ]
            rfl
          refine take_ (i := 1) (N := some 42) (v := ?_) (a' := ?_) #[true, true, true, false, false, false, false, false, false, false] rfl rfl (by kernel_rfl) (fun _ _ _ h => h) (Or.inl ⟨by rfl, ?_⟩) hHeld ?_ ?_
          rotate_left
          · rintro w' ⟨s0, s1, s2, s3⟩
            go_simp
            with_reducible rfl
          rotate_left
          · simp only [Act.put, List.setIfInBounds_toArray, List.set_cons_zero, List.set_cons_succ]
            rfl
          refine take_ (i := 3) (N := some 44) (v := ?_) (a' := ?_) #[true, true, true, true, false, false, false, false, false, false] rfl rfl (by kernel_rfl) (fun _ _ _ h => h) (Or.inl ⟨by rfl, ?_⟩) hHeld ?_ ?_
          rotate_left
          · rintro w' ⟨s0, s1, s2, s3⟩
            go_simp
            with_reducible rfl
          rotate_left
          · simp only [Act.put, List.setIfInBounds_toArray, List.set_cons_zero, List.set_cons_succ]
            rfl
          refine pure_ (i := 4) (N := some 45) (v := ?_) (a' := ?_) #[true, true, true, true, true, false, false, false, false, false] rfl rfl (by kernel_rfl) (fun _ _ _ h => h) (Or.inl ⟨by rfl, ?_⟩) ?_ ?_
          rotate_left
          · intro w'
            go_simp
            with_reducible rfl
          rotate_left
          · simp only [Act.put, List.setIfInBounds_toArray, List.set_cons_zero, List.set_cons_succ]
            rfl
          refine take_ (i := 5) (N := some 46) (v := ?_) (a' := ?_) #[true, true, true, true, true, true, false, false, false, false] rfl rfl (by kernel_rfl) (fun _ _ _ h => h) (Or.inl ⟨by rfl, ?_⟩) hHeld ?_ ?_
          rotate_left
          · rintro w' ⟨s0, s1, s2, s3⟩
            go_simp
            with_reducible rfl
          rotate_left
          · simp only [Act.put, List.setIfInBounds_toArray, List.set_cons_zero, List.set_cons_succ]
            rfl
          refine one_ (i := 6) (N := some 47) #[true, true, true, true, true, true, true, false, false, false] rfl rfl (by kernel_rfl) (by decide) (fun K hK => ?_)
          refine value_ (w1 := ?_) (v := ?_) (by rfl) rfl ?_ ?_
          rotate_left 2
          · go_simp
            constructor
            · rfl
            · rfl
          refine hK.out _ _ ⟨(blk_cell (Go.Proofs.YtjklgdpffmaamaaW.PrintWords.blk_alloc bxd _) 9).trans rfl, (blk_cell (Go.Proofs.YtjklgdpffmaamaaW.PrintWords.blk_alloc bqd _) 0).trans rfl, (blk_cell (Go.Proofs.YtjklgdpffmaamaaW.PrintWords.blk_alloc bqd _) 1).trans rfl, (blk_cell (Go.Proofs.YtjklgdpffmaamaaW.PrintWords.blk_alloc bqd _) 2).trans rfl⟩ (fun hHeld => ?_)
          clear hK K
          refine norm_ (a' := ?_) ?_ ?_
          rotate_left
          · show Act.put _ (some 47) _ = _
            simp only [Act.put, List.setIfInBounds_toArray, List.set_cons_zero, List.set_cons_succ]
            rfl
          refine last_ (i := 7) (N := some 48) #[true, true, true, true, true, true, true, true, false, false] rfl rfl (by kernel_rfl) (by decide) (fun K hK => ?_)
          refine Kd.R_append_step k40 (w0 := w) w.heap.size (by rfl) (.tmp 42) (.tmp 47) 24 40 (.agg #[(.string ⟨#[]⟩), (.int .i64 0), (.int .i64 0)]) 32 rfl Try.underlying24 info_Q rfl (by decide) (by omega) (.slice (some ⟨gq, 0, none⟩) 1 1) [sQ q7] (sQ q7) [.string q7.name, .int .i64 q7.type, .int .i64 q7.cls] (fun _ => True) (fun _ => False) rfl rfl (k40_mkM _ _ _ (sQ q7)) (fun _ hk => hk.elim) (fun _ _ => trivial) HOd HBd HBd.size (by decide) ?_
          intro v1 w3 ho3 hb3 hg3 _
          have hx3 := blk_grown bxd hg3 (by intro q; injection q with q; exact hxq q.symm)
          obtain ⟨A3, c3, rfl⟩ := Kd.R_slice ho3
          obtain ⟨_, hl3, hC3⟩ := Kd.R_reads' ho3
          refine hK.out _ _ ?_
          clear hK K
          refine norm_ (a' := ?_) ?_ ?_
          rotate_left
          · show Act.put _ (some 48) _ = _
            simp only [Act.put, List.setIfInBounds_toArray, List.set_cons_zero, List.set_cons_succ]
            rfl
          refine pure_ (i := 8) (N := some 49) (v := ?_) (a' := ?_) #[true, true, true, true, true, true, true, true, true, false] rfl rfl (by kernel_rfl) (fun _ _ _ h => h) (Or.inl ⟨by rfl, ?_⟩) ?_ ?_
          rotate_left
          · intro w'
            go_simp
            with_reducible rfl
          rotate_left
          · simp only [Act.put, List.setIfInBounds_toArray, List.set_cons_zero, List.set_cons_succ]
            rfl
          refine last_ (i := 9) (N := none) #[true, true, true, true, true, true, true, true, true, true] rfl rfl (by kernel_rfl) (by decide) (fun K hK => ?_)
          have z9 : w3.cell? ⟨gx, 9, none⟩ = some (.slice (some ⟨gq, 0, none⟩) 1 1) := (blk_cell hx3 9).trans rfl
          have f9 := blk_frozen hx3 9
          refine skip_ (w1 := ?_) (by rfl) rfl ?_ ?_
          rotate_left
          · go_simp
            rfl
          refine hK.out _ _ ?_
          clear hK K
          refine done_ (by kernel_rfl) ?_
          try go_wp2
          go_meet
          have ho4 := Kd.R_set ho3 hx3 (fun q hq => by rcases List.mem_cons.1 hq with rfl | h; decide; cases h) 9 (.slice A3 2 c3)
          obtain ⟨_, _, hC4⟩ := Kd.R_reads' ho4
          case rel => exact ⟨[sQ q7, sQ q7], A3, c3, .inr rfl, by simp, ⟨by have := blk_put hx3 9 (.slice A3 2 c3) rfl; simpa using this, hb3.setCell L2.le _, L2.le⟩, hl3, hC4⟩
        | false =>
          obtain ⟨h1, h2⟩ := qCb (own1)
          go_wp2
          go_meet
          case rel => exact ⟨[sQ q7], some ⟨gq, 0, none⟩, 1, .inl rfl, by simp, L2, h1, h2⟩
      case rest =>
        obtain ⟨xs, A, c, hxs, rfl, L3, hc3, hC3⟩ := hcut
        clear L2 bq2
        go_upto_if 52 with (fail)
        go_cut [8] (fun v8 wc => ∃ (xs : List S40) (A : Option Addr) (c : Nat), (xs = [] ∨ xs = [sQ q7] ∨ xs = [sQ q7, sQ q7]) ∧ v8 = .bool (qr && (o == 0) && decide (xs.length = 1)) ∧ Lay m w gx id wc qr o (.slice A xs.length c) ∧ xs.length ≤ c ∧ Kd.C k40 wc A xs.length xs)
        case first =>
          have x9 : wc.cell? ⟨gx, 9, none⟩ = some (.slice A xs.length c) := (blk_cell L3.blk 9).trans rfl
          have y9 := blk_frozen L3.blk 9
          cases hb : (Go.bits .and .i64 wrong 8 == 8) with
          | true =>
            go_wp2
            go_meet
            case rel => exact ⟨[], none, 0, .inl rfl, by simp, ⟨by have := blk_put L3.blk 9 (.slice none 0 0) rfl; simpa using this, L3.bel.setCell L3.le _, L3.le⟩, Nat.le_refl _, Kd.C_nil _ _⟩
          | false =>
            go_wp2
            go_meet
            case rel => exact ⟨xs, A, c, .inr hxs, rfl, L3, hc3, hC3⟩
        case rest =>
          clear hxs L3 hc3 hC3
          obtain ⟨ys, A', c', hys, rfl, L4, hc4, hC4⟩ := hcut
          have hmc := hm0.below L4.bel
          have hmx := Lib.hid hm0
          have ka1 := Kd.C_below ka0 L4.bel
          have kn1 := Kd.C_below kn0 L4.bel
          have kr1 := Kd.C_below kr0 L4.bel
          clear ka0 kn0 kr0
          obtain ⟨X, hX⟩ : ∃ X : MsgV, X = ⟨⟨id, qr, o, true, false, false, false, 0, 3⟩, A', c', ys.map wm_Q4, m.Aa, m.ca, m.an, m.An, m.cn, m.ns, m.Ar, m.cr, m.ar⟩ := ⟨_, rfl⟩
          have hXL : X.Lies wc := by
            rw [hX]
            exact ⟨qcells_of wm_Q4 hC4 (fun x cs h => k40_open h), hmc.a, hmc.n, hmc.r, by rw [List.length_map]; exact hc4, hmc.la, hmc.ln, hmc.lr, hmc.sa, hmc.sn, hmc.sr⟩
          have kp := rputc X wc hXL
          have eX : X.cells = #[.int .i64 id, .bool qr, .int .i64 o, .bool true, .bool false, .bool false, .bool false, .int .i64 0, .int .i64 3, .slice A' ys.length c', .slice m.Aa m.an.length m.ca, .slice m.An m.ns.length m.cn, .slice m.Ar m.ar.length m.cr] := by rw [hX]; simp only [MsgV.cells, List.length_map]
          rw [eX] at kp
          have HX := Lib.hid hX
          clear hX
          have d0 : wc.cell? ⟨gx, 0, none⟩ = some (.int .i64 id) := (blk_cell L4.blk 0).trans rfl
          have d1 : wc.cell? ⟨gx, 1, none⟩ = some (.bool qr) := (blk_cell L4.blk 1).trans rfl
          have d2 : wc.cell? ⟨gx, 2, none⟩ = some (.int .i64 o) := (blk_cell L4.blk 2).trans rfl
          have d3 : wc.cell? ⟨gx, 3, none⟩ = some (.bool true) := (blk_cell L4.blk 3).trans rfl
          have d4 : wc.cell? ⟨gx, 4, none⟩ = some (.bool false) := (blk_cell L4.blk 4).trans rfl
          have d5 : wc.cell? ⟨gx, 5, none⟩ = some (.bool false) := (blk_cell L4.blk 5).trans rfl
          have d6 : wc.cell? ⟨gx, 6, none⟩ = some (.bool false) := (blk_cell L4.blk 6).trans rfl
          have d7 : wc.cell? ⟨gx, 7, none⟩ = some (.int .i64 0) := (blk_cell L4.blk 7).trans rfl
          have d8 : wc.cell? ⟨gx, 8, none⟩ = some (.int .i64 3) := (blk_cell L4.blk 8).trans rfl
          have d9 : wc.cell? ⟨gx, 9, none⟩ = some (.slice A' ys.length c') := (blk_cell L4.blk 9).trans rfl
          have d10 : wc.cell? ⟨gx, 10, none⟩ = some (.slice m.Aa m.an.length m.ca) := (blk_cell L4.blk 10).trans rfl
          have d11 : wc.cell? ⟨gx, 11, none⟩ = some (.slice m.An m.ns.length m.cn) := (blk_cell L4.blk 11).trans rfl
          have d12 : wc.cell? ⟨gx, 12, none⟩ = some (.slice m.Ar m.ar.length m.cr) := (blk_cell L4.blk 12).trans rfl
          go_wp2_with fail
          refine kp.mono ?_
          rintro e w5 ⟨rfl, hb⟩
          have B5 := L4.bel.trans (hb.mono L4.bel.size)
          have b5 := blk_below L4.blk hb
          replace hC4 := Kd.C_below hC4 hb
          replace ka1 := Kd.C_below ka1 hb
          replace kn1 := Kd.C_below kn1 hb
          replace kr1 := Kd.C_below kr1 hb
          clear d0 d1 d2 d3 d4 d5 d6 d7 d8 d9 d10 d11 d12
          clear kp hb L4 eX hXL hm1 hmc
          by_cases h0 : putE X = 0
          case neg =>
            have t0 : (putE X != 0) = true := by simpa using h0
            clear h0
            go_wp2_with fail
            go_ret
            exact ⟨rfl, B5⟩
          have t0 : (putE X != 0) = false := by simpa using h0
          obtain ⟨E1, ⟨g', E2, hg'⟩, hl, hz⟩ := forms h0
          clear h0
          have k1 := fun w => replyc (putS X) w (by omega) E1
          have hz2 : (putS X ++ ⟨#[97]⟩ : ByteArray).size ≤ 4097 := by rw [ByteArray.size_append]; exact Nat.succ_le_succ hz
          have k2 := fun w => replyc (putS X ++ ⟨#[97]⟩) w (by omega) E2
          rw [rep_bad hg'] at k2
          obtain ⟨G2, hG2, hE2⟩ : ∃ G2 : Got, G2 = got0 2000 ∧ G2.e = 2000 := ⟨_, rfl, rfl⟩
          rw [← hG2] at k2
          have q2 : (G2.e == 2000) = true := by rw [hE2]; rfl
          clear hG2 hE2
          rw [HX.out] at k1 hl
          simp only [repG_eq, List.length_map] at k1
          clear E1 E2 hg'
          rw [← HX.out] at k1
          generalize putS X = t at *
          generalize putE X = te at *
          clear HX X
          obtain ⟨G, hG⟩ : ∃ G : Got, (G = if (qr && (o == 0) && decide (ys.length = 1)) = true then ⟨⟨id, qr, o, true, false, false, false, 0, 3⟩, ys.map wm_Q4, m.an, m.ns, m.ar, 0⟩ else got0 2000) := ⟨_, rfl⟩
          rw [← hG] at k1
          have HG := Lib.hid hG
          clear hG
          have n1 := fun w => Hd.numc G.e w
          have n2 := fun w => Hd.numc G2.e w
          go_wp2_with fail
          refine (k1 _).mono ?_
          rintro e w6 hh
          obtain ⟨Aq, Aqc, Aa, Aac, An, Anc, Ar, Arc, rfl, HA, hb⟩ := got_holds hh
          replace B5 := B5.trans (hb.mono B5.size)
          replace b5 := blk_below b5 hb
          replace hC4 := Kd.C_below hC4 hb
          replace ka1 := Kd.C_below ka1 hb
          replace kn1 := Kd.C_below kn1 hb
          replace kr1 := Kd.C_below kr1 hb
          have hb2 : Below w6.heap.size w6 (w6.alloc (.cells #[.int .i64 G.h.id, .bool G.h.qr, .int .i64 G.h.op, .bool G.h.aa, .bool G.h.tc, .bool G.h.rd, .bool G.h.ra, .int .i64 G.h.z, .int .i64 G.h.rc, .slice Aq G.qs.length Aqc, .slice Aa G.an.length Aac, .slice An G.ns.length Anc, .slice Ar G.ar.length Arc] 27)) := (Below.refl _ _).alloc (Nat.le_refl _) _
          have bA := blk_new w6 (.cells #[.int .i64 G.h.id, .bool G.h.qr, .int .i64 G.h.op, .bool G.h.aa, .bool G.h.tc, .bool G.h.rd, .bool G.h.ra, .int .i64 G.h.z, .int .i64 G.h.rc, .slice Aq G.qs.length Aqc, .slice Aa G.an.length Aac, .slice An G.ns.length Anc, .slice Ar G.ar.length Arc] 27)
          clear hh hb k1
          go_upto_region 23 with (fail)
          replace B5 := B5.trans (hb2.mono B5.size)
          replace b5 := blk_below b5 hb2
          replace HA := HA.below hb2
          replace hC4 := Kd.C_below hC4 hb2
          replace ka1 := Kd.C_below ka1 hb2
          replace kn1 := Kd.C_below kn1 hb2
          replace kr1 := Kd.C_below kr1 hb2
          clear hb2
          generalize (w6.alloc (.cells #[.int .i64 G.h.id, .bool G.h.qr, .int .i64 G.h.op, .bool G.h.aa, .bool G.h.tc, .bool G.h.rd, .bool G.h.ra, .int .i64 G.h.z, .int .i64 G.h.rc, .slice Aq G.qs.length Aqc, .slice Aa G.an.length Aac, .slice An G.ns.length Anc, .slice Ar G.ar.length Arc] 27)) = w7 at *
          obtain ⟨gA, hgA⟩ : ∃ k, k = w6.heap.size := ⟨_, rfl⟩
          rw [← hgA] at bA ⊢
          clear hgA
          go_wp2_with fail
          refine (k2 _).mono ?_
          rintro e w8 hh
          obtain ⟨Bq, Bqc, Ba, Bac, Bn, Bnc, Br, Brc, rfl, HB, hb⟩ := got_holds hh
          replace B5 := B5.trans (hb.mono B5.size)
          replace b5 := blk_below b5 hb
          replace bA := blk_below bA hb
          replace HA := HA.below hb
          replace hC4 := Kd.C_below hC4 hb
          replace ka1 := Kd.C_below ka1 hb
          replace kn1 := Kd.C_below kn1 hb
          replace kr1 := Kd.C_below kr1 hb
          have hb2 : Below w8.heap.size w8 (w8.alloc (.cells #[.int .i64 G2.h.id, .bool G2.h.qr, .int .i64 G2.h.op, .bool G2.h.aa, .bool G2.h.tc, .bool G2.h.rd, .bool G2.h.ra, .int .i64 G2.h.z, .int .i64 G2.h.rc, .slice Bq G2.qs.length Bqc, .slice Ba G2.an.length Bac, .slice Bn G2.ns.length Bnc, .slice Br G2.ar.length Brc] 27)) := (Below.refl _ _).alloc (Nat.le_refl _) _
          go_upto_region 24 with (fail)
          replace B5 := B5.trans (hb2.mono B5.size)
          replace b5 := blk_below b5 hb2
          replace bA := blk_below bA hb2
          replace HA := HA.below hb2
          replace hC4 := Kd.C_below hC4 hb2
          replace ka1 := Kd.C_below ka1 hb2
          replace kn1 := Kd.C_below kn1 hb2
          replace kr1 := Kd.C_below kr1 hb2
          clear hb hb2 hh HB k2 hz hz2 t0
          generalize w8.alloc (.cells #[.int .i64 G2.h.id, .bool G2.h.qr, .int .i64 G2.h.op, .bool G2.h.aa, .bool G2.h.tc, .bool G2.h.rd, .bool G2.h.ra, .int .i64 G2.h.z, .int .i64 G2.h.rc, .slice Bq G2.qs.length Bqc, .slice Ba G2.an.length Bac, .slice Bn G2.ns.length Bnc, .slice Br G2.ar.length Brc] 27) = w9 at *
          generalize w8.heap.size = gB at *
          obtain ⟨fine, hfine⟩ : ∃ f : Bool, f = (qr && (o == 0) && decide (ys.length = 1)) := ⟨_, rfl⟩
          rw [← hfine] at HG ⊢
          clear hfine
          cases fine with
          | false =>
            have e : G.e = 2000 := by rw [HG.out]; rfl
            have q1 : (G.e == 0) = false := by rw [e]; rfl
            have q3 : (G.e == 2000) = true := by rw [e]; rfl
            clear e HG hC4 ka1 kn1 kr1 HA bA
            go_wp2_with fail
            refine (n1 _).mono ?_
            rintro e w10 ⟨rfl, rfl⟩
            go_wp2_with fail
            refine (n1 _).mono ?_
            rintro e w10 ⟨rfl, rfl⟩
            go_wp2_with fail
            refine (n2 _).mono ?_
            rintro e w10 ⟨rfl, rfl⟩
            go_wp2_with fail
            go_ret
            exact ⟨rfl, B5⟩
          | true =>
            have hG : G = ⟨⟨id, qr, o, true, false, false, false, 0, 3⟩, ys.map wm_Q4, m.an, m.ns, m.ar, 0⟩ := by rw [HG.out]; exact if_pos rfl
            subst hG
            clear HG
            have lx : ys.length ≤ c' := hc4
            have ks : Calls Try.prog 20 #[.agg #[.int .i64 id, .bool qr, .int .i64 o, .bool true, .bool false, .bool false, .bool false, .int .i64 0, .int .i64 3, .slice Aq ys.length Aqc, .slice Aa m.an.length Aac, .slice An m.ns.length Anc, .slice Ar m.ar.length Arc], .agg #[.int .i64 id, .bool qr, .int .i64 o, .bool true, .bool false, .bool false, .bool false, .int .i64 0, .int .i64 3, .slice A' ys.length c', .slice m.Aa m.an.length m.ca, .slice m.An m.ns.length m.cn, .slice m.Ar m.ar.length m.cr]] w9 fun e w' => e = .returned (.bool true) ∧ Below w9.heap.size w9 w' := by
              have la : xa.length = m.an.length := by rw [EA.out, List.length_map]
              have ln : xn.length = m.ns.length := by rw [EN.out, List.length_map]
              have lr : xr.length = m.ar.length := by rw [ER.out, List.length_map]
              have := sameX (by simpa using hl) HA (qs := ys) (an := xa) (ns := xn) (ar := xr) rfl EA.out EN.out ER.out hC4 lx ka1 (by rw [la]; exact hmx.out.la) kn1 (by rw [ln]; exact hmx.out.ln) kr1 (by rw [lr]; exact hmx.out.lr)
              simp only [List.length_map, la, ln, lr] at this
              exact this
            have a0 : w9.cell? ⟨gA, 0, none⟩ = some (.int .i64 id) := (blk_cell bA 0).trans rfl
            have a1 : w9.cell? ⟨gA, 1, none⟩ = some (.bool qr) := (blk_cell bA 1).trans rfl
            have a2 : w9.cell? ⟨gA, 2, none⟩ = some (.int .i64 o) := (blk_cell bA 2).trans rfl
            have a3 : w9.cell? ⟨gA, 3, none⟩ = some (.bool true) := (blk_cell bA 3).trans rfl
            have a4 : w9.cell? ⟨gA, 4, none⟩ = some (.bool false) := (blk_cell bA 4).trans rfl
            have a5 : w9.cell? ⟨gA, 5, none⟩ = some (.bool false) := (blk_cell bA 5).trans rfl
            have a6 : w9.cell? ⟨gA, 6, none⟩ = some (.bool false) := (blk_cell bA 6).trans rfl
            have a7 : w9.cell? ⟨gA, 7, none⟩ = some (.int .i64 0) := (blk_cell bA 7).trans rfl
            have a8 : w9.cell? ⟨gA, 8, none⟩ = some (.int .i64 3) := (blk_cell bA 8).trans rfl
            have a9 : w9.cell? ⟨gA, 9, none⟩ = some (.slice Aq ys.length Aqc) := (blk_cell bA 9).trans (by simp only [List.length_map]; rfl)
            have a10 : w9.cell? ⟨gA, 10, none⟩ = some (.slice Aa m.an.length Aac) := (blk_cell bA 10).trans rfl
            have a11 : w9.cell? ⟨gA, 11, none⟩ = some (.slice An m.ns.length Anc) := (blk_cell bA 11).trans rfl
            have a12 : w9.cell? ⟨gA, 12, none⟩ = some (.slice Ar m.ar.length Arc) := (blk_cell bA 12).trans rfl
            have d0 : w9.cell? ⟨gx, 0, none⟩ = some (.int .i64 id) := (blk_cell b5 0).trans rfl
            have d1 : w9.cell? ⟨gx, 1, none⟩ = some (.bool qr) := (blk_cell b5 1).trans rfl
            have d2 : w9.cell? ⟨gx, 2, none⟩ = some (.int .i64 o) := (blk_cell b5 2).trans rfl
            have d3 : w9.cell? ⟨gx, 3, none⟩ = some (.bool true) := (blk_cell b5 3).trans rfl
            have d4 : w9.cell? ⟨gx, 4, none⟩ = some (.bool false) := (blk_cell b5 4).trans rfl
            have d5 : w9.cell? ⟨gx, 5, none⟩ = some (.bool false) := (blk_cell b5 5).trans rfl
            have d6 : w9.cell? ⟨gx, 6, none⟩ = some (.bool false) := (blk_cell b5 6).trans rfl
            have d7 : w9.cell? ⟨gx, 7, none⟩ = some (.int .i64 0) := (blk_cell b5 7).trans rfl
            have d8 : w9.cell? ⟨gx, 8, none⟩ = some (.int .i64 3) := (blk_cell b5 8).trans rfl
            have d9 : w9.cell? ⟨gx, 9, none⟩ = some (.slice A' ys.length c') := (blk_cell b5 9).trans rfl
            have d10 : w9.cell? ⟨gx, 10, none⟩ = some (.slice m.Aa m.an.length m.ca) := (blk_cell b5 10).trans rfl
            have d11 : w9.cell? ⟨gx, 11, none⟩ = some (.slice m.An m.ns.length m.cn) := (blk_cell b5 11).trans rfl
            have d12 : w9.cell? ⟨gx, 12, none⟩ = some (.slice m.Ar m.ar.length m.cr) := (blk_cell b5 12).trans rfl
            clear hC4 ka1 kn1 kr1 HA bA b5
            go_wp2_with fail
            refine (n1 _).mono ?_
            rintro e w10 ⟨rfl, rfl⟩
            go_wp2_with fail
            refine ks.mono ?_
            rintro e w10 ⟨rfl, hb⟩
            replace B5 := B5.trans (hb.mono B5.size)
            clear hb ks a0 d0 a1 d1 a2 d2 a3 d3 a4 d4 a5 d5 a6 d6 a7 d7 a8 d8 a9 d9 a10 d10 a11 d11 a12 d12
            go_wp2_with fail
            refine (n2 _).mono ?_
            rintro e w11 ⟨rfl, rfl⟩
            go_wp2_with fail
            go_ret
            exact ⟨rfl, B5⟩
set_option maxRecDepth 100000 in
/-- As the row wants it. -/
theorem hcalls (wrong op : Int) (x : S27) (W : World) (A1 : Option Addr) (c1 : Nat) (A2 : Option Addr) (c2 : Nat) (A3 : Option Addr) (c3 : Nat) (A4 : Option Addr) (c4 : Nat)
    (h1 : Kd.C k40 W A1 x.f1.length x.f1) (l1 : x.f1.length ≤ c1) (h2 : Kd.C k53 W A2 x.f2.length x.f2) (l2 : x.f2.length ≤ c2) (h3 : Kd.C k53 W A3 x.f3.length x.f3) (l3 : x.f3.length ≤ c3) (h4 : Kd.C k53 W A4 x.f4.length x.f4) (l4 : x.f4.length ≤ c4)
    (ha : (Lit.int .i64 wrong).wf = true) (hb : (Lit.int .i64 op).wf = true) (hx : ok27 x) :
    Calls Try.prog 4 #[.int .i64 wrong, .int .i64 op, .agg #[.int .i64 x.f0.f0, .bool x.f0.f1, .int .i64 x.f0.f2, .bool x.f0.f3, .bool x.f0.f4, .bool x.f0.f5, .bool x.f0.f6, .int .i64 x.f0.f7, .int .i64 x.f0.f8, .slice A1 x.f1.length c1, .slice A2 x.f2.length c2, .slice A3 x.f3.length c3, .slice A4 x.f4.length c4]] W fun e w' => e = .returned (.bool true) ∧ Below W.heap.size W w' := by
  have e2 : small (x.f2.map wm_R4) := small_of (small_map fun y hy => Nat.le_trans (hx.2.2.1.2 y hy).2.2.2.2 (by decide))
  have e3 : small (x.f3.map wm_R4) := small_of (small_map fun y hy => Nat.le_trans (hx.2.2.2.1.2 y hy).2.2.2.2 (by decide))
  have e4 : small (x.f4.map wm_R4) := small_of (small_map fun y hy => Nat.le_trans (hx.2.2.2.2.2 y hy).2.2.2.2 (by decide))
  have := walk wrong op ⟨⟨x.f0.f0, x.f0.f1, x.f0.f2, x.f0.f3, x.f0.f4, x.f0.f5, x.f0.f6, x.f0.f7, x.f0.f8⟩, A1, c1, x.f1.map wm_Q4, A2, c2, x.f2.map wm_R4, A3, c3, x.f3.map wm_R4, A4, c4, x.f4.map wm_R4⟩ W
    ⟨qcells_of wm_Q4 h1 (fun x cs h => k40_open h), rcells_of wm_R4 h2 (fun x cs h => k53_open h), rcells_of wm_R4 h3 (fun x cs h => k53_open h), rcells_of wm_R4 h4 (fun x cs h => k53_open h),
      by rw [List.length_map]; exact l1, by rw [List.length_map]; exact l2, by rw [List.length_map]; exact l3, by rw [List.length_map]; exact l4, e2, e3, e4⟩ x.f2 x.f3 x.f4 rfl rfl rfl h2 h3 h4
  simp only [MsgV.cells, List.length_map] at this
  exact this
end Go.Proofs.Ytjklgdpffmaamaa.Forms20

namespace Go.Proofs.Ytjklgdpffmaamaa.replyForms
open Go.ChangeShapes Go.WideShapes Go.ChangeAt Go.RowKit Go.Proofs.YtjklgdpffmaamaaW.PrintWords Go.Proofs.Ytjklgdpffmaamaa.PLs Go.Proofs.Ytjklgdpffmaamaa.OpenZd Go.Proofs.Ytjklgdpffmaamaa.OkzLs
open Go.ChangeMaps (open_string shut_string)
set_option linter.unusedVariables false
theorem own : ownKnob Try.prog.godebug = none := by kernel_rfl
theorem laidOut : laidOutB Try.prog = true := by kernel_rfl
set_option maxRecDepth 100000 in
theorem contract (H : Type) (enc : TypeId × Value → H) (W : World) (base : Nat) (args : Array Value) (ds gs : List (DataW H)) (before : List MemPlace)
    (hval : ∀ (j : Nat) t v, Try.f4.params[j]? = some t → args[j]? = some v → Value.okWide Try.prog W .any base t v)
    (hW : DataW.Whole enc Try.prog Try.f4.params.toList Rows.replyFormsSpec.vars false W args.toList ds gs before) (hsz : (DataW.weightsEach Try.prog (Try.f4.params.toList ++ Rows.replyFormsSpec.plain.varTypes Try.prog) (ds ++ gs)).all (· ≤ reachBytes) = true) :
    Calls Try.prog 4 args W fun e W' => ∃ v, e = .returned v ∧ Rows.replyFormsSpec.post enc Try.prog Try.f4 false true false false W args v W' := by
  have hW' := hW
  obtain ⟨p, q, hA0, hV, rfl, hfz, hnd⟩ := hW
  have hA : DataW.TrodAll enc Try.prog W 0 (fun _ => true) true Try.f4.params.toList args.toList ds p := hA0
  rw [Try.params4] at hA hval hsz
  obtain ⟨v0, vs0, d0, ds0, p0, q0, hargs, rfl, rfl, h0, r0⟩ := trodAll_cons hA
  obtain ⟨v1, vs1, d1, ds1, p1, q1, rfl, rfl, rfl, h1, r1⟩ := trodAll_cons r0
  obtain ⟨v2, vs2, d2, ds2, p2, q2, rfl, rfl, rfl, h2, r2⟩ := trodAll_cons r1
  obtain ⟨rfl, rfl, rfl⟩ := trodAll_nil r2
  obtain rfl : args = #[v0, v1, v2] := by cases args; simp_all
  obtain ⟨rfl, rfl⟩ := trodVars_none hV
  have k0 := h0
  have lt0 : ∀ x ∈ p0, x.block < W.heap.size := by obtain ⟨m, hm⟩ := k0; exact DataW.trod_lt m _ _ _ hm
  obtain ⟨fuel0, hf0⟩ := h0
  have light0 : Light Try.prog 3 d0 := light_each Try.prog hsz (j := 0) rfl rfl
  obtain ⟨a0, rfl, _, _, wa0⟩ := open_int Try.underlying3 (hval 0 3 v0 rfl rfl) k0
  obtain ⟨x0, e0, o0⟩ := (opens_int enc Try.prog W 0 (fun _ => true) true Try.underlying3) _ _ _ hf0 light0
  obtain rfl : a0 = x0 := by have e' := List.cons.inj e0; simpa using e'.1
  have k1 := h1
  have lt1 : ∀ x ∈ p1, x.block < W.heap.size := by obtain ⟨m, hm⟩ := k1; exact DataW.trod_lt m _ _ _ hm
  obtain ⟨fuel1, hf1⟩ := h1
  have light1 : Light Try.prog 3 d1 := light_each Try.prog hsz (j := 1) rfl rfl
  obtain ⟨a1, rfl, _, _, wa1⟩ := open_int Try.underlying3 (hval 1 3 v1 rfl rfl) k1
  obtain ⟨x1, e1, o1⟩ := (opens_int enc Try.prog W 0 (fun _ => true) true Try.underlying3) _ _ _ hf1 light1
  obtain rfl : a1 = x1 := by have e' := List.cons.inj e1; simpa using e'.1
  have k2 := h2
  have lt2 : ∀ x ∈ p2, x.block < W.heap.size := by obtain ⟨m, hm⟩ := k2; exact DataW.trod_lt m _ _ _ hm
  obtain ⟨fuel2, hf2⟩ := h2
  have light2 : Light Try.prog 27 d2 := light_each Try.prog hsz (j := 2) rfl rfl
  obtain ⟨cs2, rfl, hs2⟩ := okWide_struct Try.underlying27 (hval 2 27 v2 rfl rfl)
  have hf2' : DataW.trod enc Try.prog W 0 (fun _ => true) true fuel2 27 cs2.toList = some (d2, p2) := by simpa [Value.cells] using hf2
  obtain ⟨x2, e2, o2⟩ := opens27 enc W 0 (fun _ => true) true _ _ _ hf2' light2
  have e2' := e2
  generalize hcs2 : cs2.toList = l2 at e2'
  obtain ⟨z2_0, t2_0, rfl, g2_0, r2_0⟩ := e2'
  obtain ⟨z2_0_0, t2_0_0, rfl, g2_0_0, r2_0_0⟩ := g2_0
  obtain rfl := g2_0_0
  obtain ⟨z2_0_1, t2_0_1, rfl, g2_0_1, r2_0_1⟩ := r2_0_0
  obtain rfl := g2_0_1
  obtain ⟨z2_0_2, t2_0_2, rfl, g2_0_2, r2_0_2⟩ := r2_0_1
  obtain rfl := g2_0_2
  obtain ⟨z2_0_3, t2_0_3, rfl, g2_0_3, r2_0_3⟩ := r2_0_2
  obtain rfl := g2_0_3
  obtain ⟨z2_0_4, t2_0_4, rfl, g2_0_4, r2_0_4⟩ := r2_0_3
  obtain rfl := g2_0_4
  obtain ⟨z2_0_5, t2_0_5, rfl, g2_0_5, r2_0_5⟩ := r2_0_4
  obtain rfl := g2_0_5
  obtain ⟨z2_0_6, t2_0_6, rfl, g2_0_6, r2_0_6⟩ := r2_0_5
  obtain rfl := g2_0_6
  obtain ⟨z2_0_7, t2_0_7, rfl, g2_0_7, r2_0_7⟩ := r2_0_6
  obtain rfl := g2_0_7
  obtain rfl := r2_0_7
  obtain ⟨z2_1, t2_1, rfl, g2_1, r2_1⟩ := r2_0
  obtain ⟨A2_1, c2_1, rfl, hl2_1, hC2_1⟩ := g2_1
  obtain ⟨z2_2, t2_2, rfl, g2_2, r2_2⟩ := r2_1
  obtain ⟨A2_2, c2_2, rfl, hl2_2, hC2_2⟩ := g2_2
  obtain ⟨z2_3, t2_3, rfl, g2_3, r2_3⟩ := r2_2
  obtain ⟨A2_3, c2_3, rfl, hl2_3, hC2_3⟩ := g2_3
  obtain ⟨A2_4, c2_4, rfl, hl2_4, hC2_4⟩ := r2_3
  obtain rfl : cs2 = #[.int .i64 x2.f0.f0, .bool x2.f0.f1, .int .i64 x2.f0.f2, .bool x2.f0.f3, .bool x2.f0.f4, .bool x2.f0.f5, .bool x2.f0.f6, .int .i64 x2.f0.f7, .int .i64 x2.f0.f8, .slice A2_1 x2.f1.length c2_1, .slice A2_2 x2.f2.length c2_2, .slice A2_3 x2.f3.length c2_3, .slice A2_4 x2.f4.length c2_4] := by apply Array.ext'; simpa using hcs2
  clear hA0
  refine (Forms20.hcalls a0 a1 x2 W A2_1 c2_1 A2_2 c2_2 A2_3 c2_3 A2_4 c2_4 hC2_1 hl2_1 hC2_2 hl2_2 hC2_3 hl2_3 hC2_4 hl2_4 o0 o1 o2).mono fun e W' ⟨he, hd⟩ => ?_
  have bel : Below W.heap.size W W' := hd
  subst he
  exact ⟨_, rfl, _, _, _, [], _, [], hW', trodAll_mk1 (shut_bool Try.underlying4 _), (trodAll_cons_mk (Below.trod laidOut (by kernel_rfl) (of_decide_eq_true (by kernel_rfl)) k0 bel lt0) (trodAll_cons_mk (Below.trod laidOut (by kernel_rfl) (of_decide_eq_true (by kernel_rfl)) k1 bel lt1) (trodAll_cons_mk (Below.trod laidOut (by kernel_rfl) (of_decide_eq_true (by kernel_rfl)) k2 bel lt2) trodAll_mk0))), rfl, bel.frame _, fun h => by cases h⟩
set_option maxRecDepth 100000 in
theorem lifted (os : Os) (started : os.Started) (H : Type) (enc : TypeId × Value → H) :
    ReturnsInHanded {} Try.checked os 4 .any (Rows.replyFormsSpec.pre6 enc Try.prog Try.f4 Rows.replyFormsRow.domain false) (Rows.replyFormsSpec.post enc Try.prog Try.f4 false true false false) := by
  refine returnsInHanded_of_change_sized (C := Try.checked) own started (by kernel_rfl) Try.func4
    (ChangeSpec.witness6 (enc := enc) (C := Try.checked) false ⟨#[], #[.int .i64 0, .int .i64 0, .agg #[.int .i64 0, .bool false, .int .i64 0, .bool false, .bool false, .bool false, .bool false, .int .i64 0, .int .i64 0, .slice none 0 0, .slice none 0 0, .slice none 0 0, .slice none 0 0]], []⟩ 8 (by kernel_rfl) (by kernel_rfl) (by kernel_rfl) (by kernel_rfl)) ?_
  intro W base args ds gs before hval hW _ hsz _
  exact contract H enc W base args ds gs before hval hW hsz
theorem over : Rows.replyFormsRow.holds Try.pinned (OpenSpec.ofChange Rows.replyFormsSpec) :=
  OpenClaim.holds_of_wide 4 Try.f4 rfl rfl rfl rfl rfl rfl rfl ⟨rfl, rfl, rfl, rfl, rfl⟩ rfl rfl rfl rfl rfl (by kernel_rfl) Try.func4 (by kernel_rfl)
    (of_decide_eq_true (by kernel_rfl)) (by unfold Func.isWrapper; first | (rw [if_pos (by decide +kernel)]; kernel_rfl) | (rw [if_neg (by decide +kernel)]; exact ⟨rfl, rfl⟩))
    (fun os started H enc _ => lifted os started H enc)
end Go.Proofs.Ytjklgdpffmaamaa.replyForms
namespace Go.Proofs.Ytjklgdpffmaamaa
theorem replyForms_holds : Rows.ReplyFormsSaid := replyForms.over
end Go.Proofs.Ytjklgdpffmaamaa
