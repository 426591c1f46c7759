/- The document's GetOpt at an OPT of one option: padding alone. Plain: no program in sight. -/
import Derived.Test.YtjklgdpffmaamaaSx1
import Derived.Test.YtjklgdpffmaamaaSx2
import Derived.Test.YtjklgdpffmaamaaSx3
import Derived.Test.YtjklgdpffmaamaaSx4
import Derived.Test.YtjklgdpffmaamaaSx5
namespace Go.Proofs.Ytjklgdpffmaamaa.PGo
open Go.RowKit Go.Proofs.YtjklgdpffmaamaaW.PrintWords Go.Proofs.YtjklgdpffmaamaaW.PrintLast Go.Proofs.YtjklgdpffmaamaaW.PrintMore
attribute [local go_sem] max2_int min2_int max_two min_two max_three min_three max_four min_four   -- for this text's walks alone
set_option linter.unusedVariables false
set_option linter.unusedSimpArgs false

/-! ### wimpleref4_GetOpt: function 27 -/
mutual
def wimpleref4_GetOpt.j0 : Nat → Bool → ByteArray → Int → Int → Int → ByteArray → Option (Int × Int × Int × Bool × Int × (List (S55)) × Int)
  | 0, _, _, _, _, _, _ => none
  | k + 1, x37, x102000, x102001, x102002, x102003, x102004 => if x37 = true then (some (0, 0, 0, false, 0, ([] : List (S55)), 800)) else (wimpleref4_GetOpt.l0 k 0 x102000 x102001 x102002 x102003 x102004 x102002 (x102003 / 16777216) (Go.bits .and .i64 (x102003 / 65536) 255) ((Go.bits .and .i64 (x102003 / 32768) 1) == 1) (Go.bits .and .i64 x102003 32767) ([] : List (S55)))
def wimpleref4_GetOpt.l0 : Nat → Int → ByteArray → Int → Int → Int → ByteArray → Int → Int → Int → Bool → Int → List (S55) → Option (Int × Int × Int × Bool × Int × (List (S55)) × Int)
  | 0, _, _, _, _, _, _, _, _, _, _, _, _ => none
  | k + 1, x5, x102000, x102001, x102002, x102003, x102004, x106000, x106001, x106002, x106003, x106004, x106005 => if x5 < (x102004.size : Int) then ((wimpleref1_Num.f k x102004 x5 2).bind fun bt106 => ((wimpleref1_Num.f k x102004 bt106.2.1 2).bind fun bt109 => (if bt106.2.2 = 0 then (if bt109.2.2 = 0 then (if bt109.1 > (wrap64 ((x102004.size : Int) - bt109.2.1)) then (some (0, 0, 0, false, 0, ([] : List (S55)), 800)) else (if 0 ≤ bt109.2.1 then (if bt109.2.1 ≤ (wrap64 (bt109.2.1 + bt109.1)) then (if (wrap64 (bt109.2.1 + bt109.1)) ≤ (x102004.size : Int) then (if x106005.length < 5864062014805 then (wimpleref4_GetOpt.l0 k (wrap64 (bt109.2.1 + bt109.1)) x102000 x102001 x102002 x102003 x102004 x106000 x106001 x106002 x106003 x106004 (x106005 ++ [(⟨bt106.1, x102004.extract (bt109.2.1 : Int).toNat ((wrap64 (bt109.2.1 + bt109.1)) : Int).toNat⟩ : S55)])) else (none)) else (none)) else (none)) else (none))) else (some (0, 0, 0, false, 0, ([] : List (S55)), 800))) else (some (0, 0, 0, false, 0, ([] : List (S55)), 800))))) else (some (x106000, x106001, x106002, x106003, x106004, x106005, 0))
end
def wimpleref4_GetOpt.f (k : Nat) (a0_0 : ByteArray) (a0_1 : Int) (a0_2 : Int) (a0_3 : Int) (a0_4 : ByteArray) : Option (Int × Int × Int × Bool × Int × (List (S55)) × Int) := if a0_0.toList = ([0] : List UInt8) then (if a0_1 = 41 then ((wimpleref4_short.f a0_2).bind fun t103 => (if t103 = true then ((wimpleref4_wide.f a0_3).bind fun t104 => (if t104 = true then (wimpleref4_GetOpt.j0 k (decide ((a0_4.size : Int) > 65535)) a0_0 a0_1 a0_2 a0_3 a0_4) else (wimpleref4_GetOpt.j0 k true a0_0 a0_1 a0_2 a0_3 a0_4))) else (wimpleref4_GetOpt.j0 k true a0_0 a0_1 a0_2 a0_3 a0_4))) else (wimpleref4_GetOpt.j0 k true a0_0 a0_1 a0_2 a0_3 a0_4)) else (wimpleref4_GetOpt.j0 k true a0_0 a0_1 a0_2 a0_3 a0_4)
def wimpleref4_GetOpt.T10 : Bool × List (List Nat × List Nat) := (true, [([], []), ([0], [0]), ([], []), ([], []), ([3], [3]), ([], []), ([], []), ([], []), ([6, 7], [6, 7]), ([4, 5, 8], [4, 5, 8]), ([2, 9], [2, 9]), ([10], [10]), ([1, 11], [1, 11]), ([0, 1, 2, 3, 4, 5, 6, 7, 8, 9, 10, 11, 12], []), ([13, 12, 12, 0, 1, 2, 3, 4, 5, 6, 7, 8, 9, 10, 11, 12], [12, 13])])
def wimpleref4_GetOpt.B10 : List Nat := [0, 1, 0, 0, 8, 0, 0, 0, 192, 504, 1020, 2044, 4095, 8191, 16383]
theorem wimpleref4_GetOpt.tab10 : rtab .any (opsOf Try.f27 10) = wimpleref4_GetOpt.T10 := by kernel_rfl
theorem wimpleref4_GetOpt.bits10 : waitsOk wimpleref4_GetOpt.T10.2 wimpleref4_GetOpt.B10 = true := by kernel_rfl
set_option maxHeartbeats 8000000 in
set_option maxRecDepth 100000 in
theorem wimpleref4_GetOpt.calls (k : Nat) (a0_0 : ByteArray) (a0_1 : Int) (a0_2 : Int) (a0_3 : Int) (a0_4 : ByteArray) (r1 : Int) (r2 : Int) (r3 : Int) (r4 : Bool) (r5 : Int) (r6 : List (S55)) (r7 : Int) (w : World) (h : wimpleref4_GetOpt.f k a0_0 a0_1 a0_2 a0_3 a0_4 = some (r1, r2, r3, r4, r5, r6, r7)) :
    Calls Try.prog 27 #[.agg #[.string a0_0, .int .i64 a0_1, .int .i64 a0_2, .int .i64 a0_3, .string a0_4]] w fun e w' => ∃ v5_ : Value, e = .returned (.tuple #[.agg #[.int .i64 r1, .int .i64 r2, .int .i64 r3, .bool r4, .int .i64 r5, v5_], .int .i64 r7]) ∧ Kd.R k55 55 w' w.heap.size (fun _ => True) v5_ r6 ∧ Below w.heap.size w w' := by
  have hu53 := Try.underlying53
  have hu49 := Try.underlying49
  have hu55 := Try.underlying55
  have HB := Aside0.mk (Below.refl w.heap.size w)
  have H : (if a0_0.toList = ([0] : List UInt8) then (if a0_1 = 41 then ((wimpleref4_short.f a0_2).bind fun t103 => (if t103 = true then ((wimpleref4_wide.f a0_3).bind fun t104 => (if t104 = true then (wimpleref4_GetOpt.j0 k (decide ((a0_4.size : Int) > 65535)) a0_0 a0_1 a0_2 a0_3 a0_4) else (wimpleref4_GetOpt.j0 k true a0_0 a0_1 a0_2 a0_3 a0_4))) else (wimpleref4_GetOpt.j0 k true a0_0 a0_1 a0_2 a0_3 a0_4))) else (wimpleref4_GetOpt.j0 k true a0_0 a0_1 a0_2 a0_3 a0_4)) else (wimpleref4_GetOpt.j0 k true a0_0 a0_1 a0_2 a0_3 a0_4)) = some (r1, r2, r3, r4, r5, r6, r7) := h
  clear h
  have HC2 := Aside0.mk H
  clear H
  go_enter Try.func27, Try.ntmps27
  go_upto_region 1 with (first | ((with_reducible refine gate_dst (N := 1) rfl ?_); (try (refine gate_guard (by rfl) ?_; dsimp only)); refine box_event ?hg (N := 1) ?hd (cs := #[.string a0_0, .int .i64 a0_1, .int .i64 a0_2, .int .i64 a0_3, .string a0_4]) (t := 53) ?hr ?_; (case hd => rfl); (case hg => rfl); (case hr => first | (go_simp; done) | (go_simp; rfl)); intro gb101 hg w3 hbox hb; have n0_ := Aside0.mk (below_step (by repeat (first | (with_reducible first | exact HB.out | apply below_alloc | apply pw_below_drewN | apply below_drew1) | exact HB.out)) hb); have n1_ := Aside0.mk (hbox); have n2_ := Aside0.mk ((by rw [hg]; exact (below_size (by repeat (first | (with_reducible first | exact HB.out | apply below_alloc | apply pw_below_drewN | apply below_drew1) | exact HB.out))) : w.heap.size ≤ gb101)); have n3_ := Aside0.mk ((by rw [hg]; exact (below_size (by repeat (first | (with_reducible first | exact HB.out | apply below_alloc | apply pw_below_drewN | apply below_drew1) | exact HB.out))) : w.heap.size ≤ gb101)); clear HB; have HB := n0_; have BK101 := n1_; have GW101 := n2_; have GE101 := n3_; clear n0_ n1_ n2_ n3_; clear hb hbox hg) | ((with_reducible refine gate_dst (N := 2) rfl ?_); (try (refine gate_guard (by rfl) ?_; dsimp only)); refine box_event ?hg (N := 2) ?hd (cs := #[.int .i64 0, .int .i64 0, .int .i64 0, .bool false, .int .i64 0, .slice none 0 0]) (t := 49) ?hr ?_; (case hd => rfl); (case hg => rfl); (case hr => first | (go_simp; done) | (go_simp; rfl)); intro gb102 hg w4 hbox hb; have n0_ := Aside0.mk (blk_below (g := gb101) (o := .cells #[.string a0_0, .int .i64 a0_1, .int .i64 a0_2, .int .i64 a0_3, .string a0_4] 53 (0, 0)) (by (with_reducible repeat (first | refine blk_drewN ?_ _ | refine blk_drew ?_ | refine blk_alloc ?_ _)); exact BK101.out) hb); have n1_ := Aside0.mk (below_step (by repeat (first | (with_reducible first | exact HB.out | apply below_alloc | apply pw_below_drewN | apply below_drew1 | refine below_set ?_ GE101.out) | exact HB.out)) hb); have n2_ := Aside0.mk (hbox); have n3_ := Aside0.mk ((by rw [hg]; exact (below_size (by repeat (first | (with_reducible first | exact HB.out | apply below_alloc | apply pw_below_drewN | apply below_drew1 | refine below_set ?_ GE101.out) | exact HB.out))) : w.heap.size ≤ gb102)); have n4_ := Aside0.mk ((by rw [hg]; exact (below_size (by repeat (first | (with_reducible first | exact HB.out | apply below_alloc | apply pw_below_drewN | apply below_drew1 | refine below_set ?_ GE101.out) | exact HB.out))) : w.heap.size ≤ gb102)); have n5_ := Aside0.mk ((by rw [hg]; exact Nat.ne_of_lt (blk_lt (g := gb101) (o := .cells #[.string a0_0, .int .i64 a0_1, .int .i64 a0_2, .int .i64 a0_3, .string a0_4] 53 (0, 0)) (by (with_reducible repeat (first | refine blk_drewN ?_ _ | refine blk_drew ?_ | refine blk_alloc ?_ _)); exact BK101.out)) : gb101 ≠ gb102)); have n6_ := Aside0.mk ((by rw [hg]; exact Nat.ne_of_gt (blk_lt (g := gb101) (o := .cells #[.string a0_0, .int .i64 a0_1, .int .i64 a0_2, .int .i64 a0_3, .string a0_4] 53 (0, 0)) (by (with_reducible repeat (first | refine blk_drewN ?_ _ | refine blk_drew ?_ | refine blk_alloc ?_ _)); exact BK101.out)) : gb102 ≠ gb101)); clear BK101; clear HB; have BK101 := n0_; have HB := n1_; have BK102 := n2_; have GW102 := n3_; have GE102 := n4_; have NB101_102 := n5_; have NB102_101 := n6_; clear n0_ n1_ n2_ n3_ n4_ n5_ n6_; clear hb hbox hg))
  (try simp only [Act.put, List.setIfInBounds_toArray, List.set_cons_zero, List.set_cons_succ])
  go_cut [37] (fun v37 wc => ∃ (kq : Nat) (x37_1 : Bool), v37 = .bool x37_1 ∧ Aside0 (wimpleref4_GetOpt.j0 kq x37_1 a0_0 a0_1 a0_2 a0_3 a0_4 = some (r1, r2, r3, r4, r5, r6, r7)) ∧ Aside0 (kq ≤ k) ∧ Aside0 (wc.heap[gb101]? = some (.cells #[.string a0_0, .int .i64 a0_1, .int .i64 a0_2, .int .i64 a0_3, .string a0_4] 53 (0, 0))) ∧ Aside0 (wc.heap[gb102]? = some (.cells #[.int .i64 0, .int .i64 0, .int .i64 0, .bool false, .int .i64 0, (.slice none 0 0)] 49 (0, 0))) ∧ Aside0 (Below w.heap.size w wc))
  case first =>
    have H := HC2.out
    clear HC2
    by_cases c5 : a0_0.toList = ([0] : List UInt8)
    · rw [if_pos c5] at H
      have c5b0 : (a0_0.toList == ([0] : List UInt8)) = true := beq_iff_eq.mpr c5
      have c5b1 : (a0_0.toList != ([0] : List UInt8)) = false := bne_eq_false_iff_eq.mpr c5
      clear c5
      (first | rw [c5b0] | (simp only [i64_w, i32_w]; rw [c5b0]) | skip)
      by_cases c6 : a0_1 = 41
      · rw [if_pos c6] at H
        have c6b0 : (a0_1 == 41) = true := beq_iff_eq.mpr c6
        have c6b1 : (a0_1 != 41) = false := bne_eq_false_iff_eq.mpr c6
        clear c6
        replace H := Option.bind_eq_some_iff.mp H
        obtain ⟨t103, A70, H⟩ := H
        replace H : (if t103 = true then ((wimpleref4_wide.f a0_3).bind fun t104 => (if t104 = true then (wimpleref4_GetOpt.j0 k (decide ((a0_4.size : Int) > 65535)) a0_0 a0_1 a0_2 a0_3 a0_4) else (wimpleref4_GetOpt.j0 k true a0_0 a0_1 a0_2 a0_3 a0_4))) else (wimpleref4_GetOpt.j0 k true a0_0 a0_1 a0_2 a0_3 a0_4)) = some (r1, r2, r3, r4, r5, r6, r7) := H
        have A7 := Aside0.mk A70
        clear A70
        by_cases c8 : t103 = true
        · subst c8
          have H1 : ((wimpleref4_wide.f a0_3).bind fun t104 => (if t104 = true then (wimpleref4_GetOpt.j0 k (decide ((a0_4.size : Int) > 65535)) a0_0 a0_1 a0_2 a0_3 a0_4) else (wimpleref4_GetOpt.j0 k true a0_0 a0_1 a0_2 a0_3 a0_4))) = some (r1, r2, r3, r4, r5, r6, r7) := by rw [if_pos rfl] at H; exact H
          clear H
          have H := H1
          clear H1
          replace H := Option.bind_eq_some_iff.mp H
          obtain ⟨t104, A90, H⟩ := H
          replace H : (if t104 = true then (wimpleref4_GetOpt.j0 k (decide ((a0_4.size : Int) > 65535)) a0_0 a0_1 a0_2 a0_3 a0_4) else (wimpleref4_GetOpt.j0 k true a0_0 a0_1 a0_2 a0_3 a0_4)) = some (r1, r2, r3, r4, r5, r6, r7) := H
          have A9 := Aside0.mk A90
          clear A90
          by_cases c10 : t104 = true
          · subst c10
            have H1 : (wimpleref4_GetOpt.j0 k (decide ((a0_4.size : Int) > 65535)) a0_0 a0_1 a0_2 a0_3 a0_4) = some (r1, r2, r3, r4, r5, r6, r7) := by rw [if_pos rfl] at H; exact H
            clear H
            have H := H1
            clear H1
            have H' := Aside0.mk H
            clear H
            have hnb11 := NB101_102.out
            have hnc11 := NB102_101.out
            have hcz12_0 : w4.cell? ⟨gb101, 0, none⟩ = some (.string a0_0) := (blk_cell BK101.out 0).trans rfl
            have hcz12_1 : w4.cell? ⟨gb101, 1, none⟩ = some (.int .i64 a0_1) := (blk_cell BK101.out 1).trans rfl
            have hcz12_2 : w4.cell? ⟨gb101, 2, none⟩ = some (.int .i64 a0_2) := (blk_cell BK101.out 2).trans rfl
            have hcz12_3 : w4.cell? ⟨gb101, 3, none⟩ = some (.int .i64 a0_3) := (blk_cell BK101.out 3).trans rfl
            have hcz12_4 : w4.cell? ⟨gb101, 4, none⟩ = some (.string a0_4) := (blk_cell BK101.out 4).trans rfl
            have hfz12_0 := blk_frozen BK101.out 0
            have hfz12_1 := blk_frozen BK101.out 1
            have hfz12_2 := blk_frozen BK101.out 2
            have hfz12_3 := blk_frozen BK101.out 3
            have hfz12_4 := blk_frozen BK101.out 4
            go_wp2_with (first | (go_at_call 52; (with_reducible refine (wimpleref4_short.calls a0_2 true _ A7.out).mono ?_); rintro e w' ⟨rfl, ⟨nd, rfl⟩⟩) | (go_at_call 53; (with_reducible refine (wimpleref4_wide.calls a0_3 true _ A9.out).mono ?_); rintro e w' ⟨rfl, ⟨nd, rfl⟩⟩))
            go_meet
            case rel => exact ⟨_, (decide ((a0_4.size : Int) > 65535)), (by first | rfl | (simp; done) | (simp [*]; done)), H', ⟨by first | omega | exact Nat.le_refl _⟩, ⟨by (with_reducible repeat (first | refine blk_drewN ?_ _ | refine blk_drew ?_ | refine blk_alloc ?_ _)); exact BK101.out⟩, ⟨by (with_reducible repeat (first | refine blk_drewN ?_ _ | refine blk_drew ?_ | refine blk_alloc ?_ _)); exact BK102.out⟩, ⟨by repeat (first | (with_reducible first | exact HB.out | apply below_alloc | apply pw_below_drewN | apply below_drew1 | refine below_set ?_ GE101.out | refine below_set ?_ GE102.out) | exact HB.out)⟩⟩
          · replace c10 := Bool.eq_false_iff.mpr c10
            subst c10
            have H1 : (wimpleref4_GetOpt.j0 k true a0_0 a0_1 a0_2 a0_3 a0_4) = some (r1, r2, r3, r4, r5, r6, r7) := by rw [if_neg (show ¬ (false = true) by decide)] at H; exact H
            clear H
            have H := H1
            clear H1
            have H' := Aside0.mk H
            clear H
            have hnb13 := NB101_102.out
            have hnc13 := NB102_101.out
            have hcz14_0 : w4.cell? ⟨gb101, 0, none⟩ = some (.string a0_0) := (blk_cell BK101.out 0).trans rfl
            have hcz14_1 : w4.cell? ⟨gb101, 1, none⟩ = some (.int .i64 a0_1) := (blk_cell BK101.out 1).trans rfl
            have hcz14_2 : w4.cell? ⟨gb101, 2, none⟩ = some (.int .i64 a0_2) := (blk_cell BK101.out 2).trans rfl
            have hcz14_3 : w4.cell? ⟨gb101, 3, none⟩ = some (.int .i64 a0_3) := (blk_cell BK101.out 3).trans rfl
            have hcz14_4 : w4.cell? ⟨gb101, 4, none⟩ = some (.string a0_4) := (blk_cell BK101.out 4).trans rfl
            have hfz14_0 := blk_frozen BK101.out 0
            have hfz14_1 := blk_frozen BK101.out 1
            have hfz14_2 := blk_frozen BK101.out 2
            have hfz14_3 := blk_frozen BK101.out 3
            have hfz14_4 := blk_frozen BK101.out 4
            go_wp2_with (first | (go_at_call 52; (with_reducible refine (wimpleref4_short.calls a0_2 true _ A7.out).mono ?_); rintro e w' ⟨rfl, ⟨nd, rfl⟩⟩) | (go_at_call 53; (with_reducible refine (wimpleref4_wide.calls a0_3 false _ A9.out).mono ?_); rintro e w' ⟨rfl, ⟨nd, rfl⟩⟩))
            go_meet
            case rel => exact ⟨_, (true), (by first | rfl | (simp; done) | (simp [*]; done)), H', ⟨by first | omega | exact Nat.le_refl _⟩, ⟨by (with_reducible repeat (first | refine blk_drewN ?_ _ | refine blk_drew ?_ | refine blk_alloc ?_ _)); exact BK101.out⟩, ⟨by (with_reducible repeat (first | refine blk_drewN ?_ _ | refine blk_drew ?_ | refine blk_alloc ?_ _)); exact BK102.out⟩, ⟨by repeat (first | (with_reducible first | exact HB.out | apply below_alloc | apply pw_below_drewN | apply below_drew1 | refine below_set ?_ GE101.out | refine below_set ?_ GE102.out) | exact HB.out)⟩⟩
        · replace c8 := Bool.eq_false_iff.mpr c8
          subst c8
          have H1 : (wimpleref4_GetOpt.j0 k true a0_0 a0_1 a0_2 a0_3 a0_4) = some (r1, r2, r3, r4, r5, r6, r7) := by rw [if_neg (show ¬ (false = true) by decide)] at H; exact H
          clear H
          have H := H1
          clear H1
          have H' := Aside0.mk H
          clear H
          have hnb15 := NB101_102.out
          have hnc15 := NB102_101.out
          have hcz16_0 : w4.cell? ⟨gb101, 0, none⟩ = some (.string a0_0) := (blk_cell BK101.out 0).trans rfl
          have hcz16_1 : w4.cell? ⟨gb101, 1, none⟩ = some (.int .i64 a0_1) := (blk_cell BK101.out 1).trans rfl
          have hcz16_2 : w4.cell? ⟨gb101, 2, none⟩ = some (.int .i64 a0_2) := (blk_cell BK101.out 2).trans rfl
          have hcz16_3 : w4.cell? ⟨gb101, 3, none⟩ = some (.int .i64 a0_3) := (blk_cell BK101.out 3).trans rfl
          have hcz16_4 : w4.cell? ⟨gb101, 4, none⟩ = some (.string a0_4) := (blk_cell BK101.out 4).trans rfl
          have hfz16_0 := blk_frozen BK101.out 0
          have hfz16_1 := blk_frozen BK101.out 1
          have hfz16_2 := blk_frozen BK101.out 2
          have hfz16_3 := blk_frozen BK101.out 3
          have hfz16_4 := blk_frozen BK101.out 4
          go_wp2_with (first | (go_at_call 52; (with_reducible refine (wimpleref4_short.calls a0_2 false _ A7.out).mono ?_); rintro e w' ⟨rfl, ⟨nd, rfl⟩⟩))
          go_meet
          case rel => exact ⟨_, (true), (by first | rfl | (simp; done) | (simp [*]; done)), H', ⟨by first | omega | exact Nat.le_refl _⟩, ⟨by (with_reducible repeat (first | refine blk_drewN ?_ _ | refine blk_drew ?_ | refine blk_alloc ?_ _)); exact BK101.out⟩, ⟨by (with_reducible repeat (first | refine blk_drewN ?_ _ | refine blk_drew ?_ | refine blk_alloc ?_ _)); exact BK102.out⟩, ⟨by repeat (first | (with_reducible first | exact HB.out | apply below_alloc | apply pw_below_drewN | apply below_drew1 | refine below_set ?_ GE101.out | refine below_set ?_ GE102.out) | exact HB.out)⟩⟩
      · rw [if_neg c6] at H
        have c6b0 : (a0_1 == 41) = false := beq_eq_false_iff_ne.mpr c6
        have c6b1 : (a0_1 != 41) = true := bne_iff_ne.mpr c6
        have H' := Aside0.mk H
        clear H
        have hnb17 := NB101_102.out
        have hnc17 := NB102_101.out
        have hcz18_0 : w4.cell? ⟨gb101, 0, none⟩ = some (.string a0_0) := (blk_cell BK101.out 0).trans rfl
        have hcz18_1 : w4.cell? ⟨gb101, 1, none⟩ = some (.int .i64 a0_1) := (blk_cell BK101.out 1).trans rfl
        have hcz18_2 : w4.cell? ⟨gb101, 2, none⟩ = some (.int .i64 a0_2) := (blk_cell BK101.out 2).trans rfl
        have hcz18_3 : w4.cell? ⟨gb101, 3, none⟩ = some (.int .i64 a0_3) := (blk_cell BK101.out 3).trans rfl
        have hcz18_4 : w4.cell? ⟨gb101, 4, none⟩ = some (.string a0_4) := (blk_cell BK101.out 4).trans rfl
        have hfz18_0 := blk_frozen BK101.out 0
        have hfz18_1 := blk_frozen BK101.out 1
        have hfz18_2 := blk_frozen BK101.out 2
        have hfz18_3 := blk_frozen BK101.out 3
        have hfz18_4 := blk_frozen BK101.out 4
        go_wp2
        go_meet
        case rel => exact ⟨_, (true), (by first | rfl | (simp; done) | (simp [*]; done)), H', ⟨by first | omega | exact Nat.le_refl _⟩, ⟨by (with_reducible repeat (first | refine blk_drewN ?_ _ | refine blk_drew ?_ | refine blk_alloc ?_ _)); exact BK101.out⟩, ⟨by (with_reducible repeat (first | refine blk_drewN ?_ _ | refine blk_drew ?_ | refine blk_alloc ?_ _)); exact BK102.out⟩, ⟨by repeat (first | (with_reducible first | exact HB.out | apply below_alloc | apply pw_below_drewN | apply below_drew1 | refine below_set ?_ GE101.out | refine below_set ?_ GE102.out) | exact HB.out)⟩⟩
    · rw [if_neg c5] at H
      have c5b0 : (a0_0.toList == ([0] : List UInt8)) = false := beq_eq_false_iff_ne.mpr c5
      have c5b1 : (a0_0.toList != ([0] : List UInt8)) = true := bne_iff_ne.mpr c5
      (first | rw [c5b0] | (simp only [i64_w, i32_w]; rw [c5b0]) | skip)
      have H' := Aside0.mk H
      clear H
      have hnb19 := NB101_102.out
      have hnc19 := NB102_101.out
      have hcz20_0 : w4.cell? ⟨gb101, 0, none⟩ = some (.string a0_0) := (blk_cell BK101.out 0).trans rfl
      have hcz20_1 : w4.cell? ⟨gb101, 1, none⟩ = some (.int .i64 a0_1) := (blk_cell BK101.out 1).trans rfl
      have hcz20_2 : w4.cell? ⟨gb101, 2, none⟩ = some (.int .i64 a0_2) := (blk_cell BK101.out 2).trans rfl
      have hcz20_3 : w4.cell? ⟨gb101, 3, none⟩ = some (.int .i64 a0_3) := (blk_cell BK101.out 3).trans rfl
      have hcz20_4 : w4.cell? ⟨gb101, 4, none⟩ = some (.string a0_4) := (blk_cell BK101.out 4).trans rfl
      have hfz20_0 := blk_frozen BK101.out 0
      have hfz20_1 := blk_frozen BK101.out 1
      have hfz20_2 := blk_frozen BK101.out 2
      have hfz20_3 := blk_frozen BK101.out 3
      have hfz20_4 := blk_frozen BK101.out 4
      go_wp2
      go_meet
      case rel => exact ⟨_, (true), (by first | rfl | (simp; done) | (simp [*]; done)), H', ⟨by first | omega | exact Nat.le_refl _⟩, ⟨by (with_reducible repeat (first | refine blk_drewN ?_ _ | refine blk_drew ?_ | refine blk_alloc ?_ _)); exact BK101.out⟩, ⟨by (with_reducible repeat (first | refine blk_drewN ?_ _ | refine blk_drew ?_ | refine blk_alloc ?_ _)); exact BK102.out⟩, ⟨by repeat (first | (with_reducible first | exact HB.out | apply below_alloc | apply pw_below_drewN | apply below_drew1 | refine below_set ?_ GE101.out | refine below_set ?_ GE102.out) | exact HB.out)⟩⟩
  case rest =>
    clear HC2
    try clear c1
    try clear c2
    try clear p2
    try clear c5
    try clear c5b0
    try clear c5b1
    try clear c6
    try clear c6b0
    try clear c6b1
    try clear c8
    try clear c10
    try clear c11
    try clear c13
    try clear c15
    try clear c17
    try clear c19
    try clear hcz12_0
    try clear hcz12_1
    try clear hcz12_2
    try clear hcz12_3
    try clear hcz12_4
    try clear hcz14_0
    try clear hcz14_1
    try clear hcz14_2
    try clear hcz14_3
    try clear hcz14_4
    try clear hcz16_0
    try clear hcz16_1
    try clear hcz16_2
    try clear hcz16_3
    try clear hcz16_4
    try clear hcz18_0
    try clear hcz18_1
    try clear hcz18_2
    try clear hcz18_3
    try clear hcz18_4
    try clear hcz20_0
    try clear hcz20_1
    try clear hcz20_2
    try clear hcz20_3
    try clear hcz20_4
    try clear hfz12_0
    try clear hfz12_1
    try clear hfz12_2
    try clear hfz12_3
    try clear hfz12_4
    try clear hfz14_0
    try clear hfz14_1
    try clear hfz14_2
    try clear hfz14_3
    try clear hfz14_4
    try clear hfz16_0
    try clear hfz16_1
    try clear hfz16_2
    try clear hfz16_3
    try clear hfz16_4
    try clear hfz18_0
    try clear hfz18_1
    try clear hfz18_2
    try clear hfz18_3
    try clear hfz18_4
    try clear hfz20_0
    try clear hfz20_1
    try clear hfz20_2
    try clear hfz20_3
    try clear hfz20_4
    obtain ⟨kq, x37_1, rfl, HA, HJ1, BK101, BK102, HB⟩ := hcut
    cases kq with
    | zero => exact absurd HA.out (by simp [wimpleref4_GetOpt.j0])
    | succ kj1 =>
      have H := HA.out
      clear HA
      simp only [wimpleref4_GetOpt.j0] at H
      by_cases c21 : x37_1 = true
      · subst c21
        have H1 : (some (0, 0, 0, false, 0, ([] : List (S55)), 800)) = some (r1, r2, r3, r4, r5, r6, r7) := by rw [if_pos rfl] at H; exact H
        clear H
        have H := H1
        clear H1
        simp only [Option.some.injEq, Prod.mk.injEq] at H
        obtain ⟨rfl, rfl, rfl, rfl, rfl, rfl, rfl⟩ := H
        have hnb22 := NB102_101.out
        have hnc22 := NB101_102.out
        (try clear hcz12_0 hcz12_1 hcz12_2 hcz12_3 hcz12_4 hfz12_0 hfz12_1 hfz12_2 hfz12_3 hfz12_4)
        (try clear hcz14_0 hcz14_1 hcz14_2 hcz14_3 hcz14_4 hfz14_0 hfz14_1 hfz14_2 hfz14_3 hfz14_4)
        (try clear hcz16_0 hcz16_1 hcz16_2 hcz16_3 hcz16_4 hfz16_0 hfz16_1 hfz16_2 hfz16_3 hfz16_4)
        (try clear hcz18_0 hcz18_1 hcz18_2 hcz18_3 hcz18_4 hfz18_0 hfz18_1 hfz18_2 hfz18_3 hfz18_4)
        (try clear hcz20_0 hcz20_1 hcz20_2 hcz20_3 hcz20_4 hfz20_0 hfz20_1 hfz20_2 hfz20_3 hfz20_4)
        have hcz23_0 : wc.cell? ⟨gb102, 0, none⟩ = some (.int .i64 0) := (blk_cell BK102.out 0).trans rfl
        have hcz23_1 : wc.cell? ⟨gb102, 1, none⟩ = some (.int .i64 0) := (blk_cell BK102.out 1).trans rfl
        have hcz23_2 : wc.cell? ⟨gb102, 2, none⟩ = some (.int .i64 0) := (blk_cell BK102.out 2).trans rfl
        have hcz23_3 : wc.cell? ⟨gb102, 3, none⟩ = some (.bool false) := (blk_cell BK102.out 3).trans rfl
        have hcz23_4 : wc.cell? ⟨gb102, 4, none⟩ = some (.int .i64 0) := (blk_cell BK102.out 4).trans rfl
        have hcz23_5 : wc.cell? ⟨gb102, 5, none⟩ = some (.slice none 0 0) := (blk_cell BK102.out 5).trans rfl
        have hfz23_0 := blk_frozen BK102.out 0
        have hfz23_1 := blk_frozen BK102.out 1
        have hfz23_2 := blk_frozen BK102.out 2
        have hfz23_3 := blk_frozen BK102.out 3
        have hfz23_4 := blk_frozen BK102.out 4
        have hfz23_5 := blk_frozen BK102.out 5
        go_wp2
        refine bodyPost_ret (results_ct rfl _ _ gb102 49 #[.int .i64 0, .int .i64 0, .int .i64 0, .bool false, .int .i64 0, .slice none 0 0] (0, 0) _ rfl (by (with_reducible repeat (first | refine blk_drewN ?_ _ | refine blk_drew ?_ | refine blk_alloc ?_ _)); refine blk_put (cs := #[.int .i64 0, .int .i64 0, .int .i64 0, .bool false, .int .i64 0, .slice none 0 0]) ?_ 5 _ rfl; (with_reducible repeat (first | refine blk_drewN ?_ _ | refine blk_drew ?_ | refine blk_alloc ?_ _)); refine blk_put (cs := #[.int .i64 0, .int .i64 0, .int .i64 0, .bool false, .int .i64 0, .slice none 0 0]) ?_ 4 _ rfl; (with_reducible repeat (first | refine blk_drewN ?_ _ | refine blk_drew ?_ | refine blk_alloc ?_ _)); refine blk_put (cs := #[.int .i64 0, .int .i64 0, .int .i64 0, .bool false, .int .i64 0, .slice none 0 0]) ?_ 3 _ rfl; (with_reducible repeat (first | refine blk_drewN ?_ _ | refine blk_drew ?_ | refine blk_alloc ?_ _)); refine blk_put (cs := #[.int .i64 0, .int .i64 0, .int .i64 0, .bool false, .int .i64 0, .slice none 0 0]) ?_ 2 _ rfl; (with_reducible repeat (first | refine blk_drewN ?_ _ | refine blk_drew ?_ | refine blk_alloc ?_ _)); refine blk_put (cs := #[.int .i64 0, .int .i64 0, .int .i64 0, .bool false, .int .i64 0, .slice none 0 0]) ?_ 1 _ rfl; (with_reducible repeat (first | refine blk_drewN ?_ _ | refine blk_drew ?_ | refine blk_alloc ?_ _)); refine blk_put (cs := #[.int .i64 0, .int .i64 0, .int .i64 0, .bool false, .int .i64 0, .slice none 0 0]) ?_ 0 _ rfl; (with_reducible repeat (first | refine blk_drewN ?_ _ | refine blk_drew ?_ | refine blk_alloc ?_ _)); exact BK102.out) Try.underlying49 rfl (by kernel_rfl)) rfl ?_
        exact ⟨_, by first | rfl | (simp [errW_none, errW_some] <;> rfl) | (simp [*, errW_none, errW_some] <;> rfl), by first | exact Kd.R_nil _ _ _ _ _ | exact Kd.N_nil _ _ _ _ _ | exact Kd.V_nil _ _ _ _ _ | exact Kd.Q_nil _ _ _ _ _ | exact Kd.S_nil _ _ _ _ _, by repeat (first | (with_reducible first | exact HB.out | apply below_alloc | apply pw_below_drewN | apply below_drew1 | refine below_set ?_ GE101.out | refine below_set ?_ GE102.out) | exact HB.out)⟩
      · replace c21 := Bool.eq_false_iff.mpr c21
        subst c21
        have H1 : (wimpleref4_GetOpt.l0 kj1 0 a0_0 a0_1 a0_2 a0_3 a0_4 a0_2 (a0_3 / 16777216) (Go.bits .and .i64 (a0_3 / 65536) 255) ((Go.bits .and .i64 (a0_3 / 32768) 1) == 1) (Go.bits .and .i64 a0_3 32767) ([] : List (S55))) = some (r1, r2, r3, r4, r5, r6, r7) := by rw [if_neg (show ¬ (false = true) by decide)] at H; exact H
        clear H
        have H := H1
        clear H1
        have H' := Aside0.mk H
        clear H
        have hnb24 := NB101_102.out
        have hnc24 := NB102_101.out
        (try clear hcz12_0 hcz12_1 hcz12_2 hcz12_3 hcz12_4 hfz12_0 hfz12_1 hfz12_2 hfz12_3 hfz12_4)
        (try clear hcz14_0 hcz14_1 hcz14_2 hcz14_3 hcz14_4 hfz14_0 hfz14_1 hfz14_2 hfz14_3 hfz14_4)
        (try clear hcz16_0 hcz16_1 hcz16_2 hcz16_3 hcz16_4 hfz16_0 hfz16_1 hfz16_2 hfz16_3 hfz16_4)
        (try clear hcz18_0 hcz18_1 hcz18_2 hcz18_3 hcz18_4 hfz18_0 hfz18_1 hfz18_2 hfz18_3 hfz18_4)
        (try clear hcz20_0 hcz20_1 hcz20_2 hcz20_3 hcz20_4 hfz20_0 hfz20_1 hfz20_2 hfz20_3 hfz20_4)
        have hcz25_0 : wc.cell? ⟨gb101, 0, none⟩ = some (.string a0_0) := (blk_cell BK101.out 0).trans rfl
        have hcz25_1 : wc.cell? ⟨gb101, 1, none⟩ = some (.int .i64 a0_1) := (blk_cell BK101.out 1).trans rfl
        have hcz25_2 : wc.cell? ⟨gb101, 2, none⟩ = some (.int .i64 a0_2) := (blk_cell BK101.out 2).trans rfl
        have hcz25_3 : wc.cell? ⟨gb101, 3, none⟩ = some (.int .i64 a0_3) := (blk_cell BK101.out 3).trans rfl
        have hcz25_4 : wc.cell? ⟨gb101, 4, none⟩ = some (.string a0_4) := (blk_cell BK101.out 4).trans rfl
        have hfz25_0 := blk_frozen BK101.out 0
        have hfz25_1 := blk_frozen BK101.out 1
        have hfz25_2 := blk_frozen BK101.out 2
        have hfz25_3 := blk_frozen BK101.out 3
        have hfz25_4 := blk_frozen BK101.out 4
        go_wp2_with (first | ((with_reducible refine gate_dst (N := 4) rfl ?_); (try (refine gate_guard (by rfl) ?_; dsimp only)); refine box_event ?hg (N := 4) ?hd (cs := #[.int .i64 0, .int .i64 0, .int .i64 0, .bool false, .int .i64 0, .slice none 0 0]) (t := 49) ?hr ?_; (case hd => rfl); (case hg => rfl); (case hr => first | (go_simp; done) | (go_simp; rfl)); intro gb105 hg w26 hbox hb; have n0_ := Aside0.mk (blk_below (g := gb101) (o := .cells #[.string a0_0, .int .i64 a0_1, .int .i64 a0_2, .int .i64 a0_3, .string a0_4] 53 (0, 0)) (by (with_reducible repeat (first | refine blk_drewN ?_ _ | refine blk_drew ?_ | refine blk_alloc ?_ _)); exact BK101.out) hb); have n1_ := Aside0.mk (blk_below (g := gb102) (o := .cells #[.int .i64 0, .int .i64 0, .int .i64 0, .bool false, .int .i64 0, .slice none 0 0] 49 (0, 0)) (by (with_reducible repeat (first | refine blk_drewN ?_ _ | refine blk_drew ?_ | refine blk_alloc ?_ _)); exact BK102.out) hb); have n2_ := Aside0.mk (below_step (by repeat (first | (with_reducible first | exact HB.out | apply below_alloc | apply pw_below_drewN | apply below_drew1 | refine below_set ?_ GE101.out | refine below_set ?_ GE102.out) | exact HB.out)) hb); have n3_ := Aside0.mk (hbox); have n4_ := Aside0.mk ((by rw [hg]; exact (below_size (by repeat (first | (with_reducible first | exact HB.out | apply below_alloc | apply pw_below_drewN | apply below_drew1 | refine below_set ?_ GE101.out | refine below_set ?_ GE102.out) | exact HB.out))) : w.heap.size ≤ gb105)); have n5_ := Aside0.mk ((by rw [hg]; exact (below_size (by repeat (first | (with_reducible first | exact HB.out | apply below_alloc | apply pw_below_drewN | apply below_drew1 | refine below_set ?_ GE101.out | refine below_set ?_ GE102.out) | exact HB.out))) : w.heap.size ≤ gb105)); have n6_ := Aside0.mk ((by rw [hg]; exact Nat.ne_of_lt (blk_lt (g := gb101) (o := .cells #[.string a0_0, .int .i64 a0_1, .int .i64 a0_2, .int .i64 a0_3, .string a0_4] 53 (0, 0)) (by (with_reducible repeat (first | refine blk_drewN ?_ _ | refine blk_drew ?_ | refine blk_alloc ?_ _)); exact BK101.out)) : gb101 ≠ gb105)); have n7_ := Aside0.mk ((by rw [hg]; exact Nat.ne_of_gt (blk_lt (g := gb101) (o := .cells #[.string a0_0, .int .i64 a0_1, .int .i64 a0_2, .int .i64 a0_3, .string a0_4] 53 (0, 0)) (by (with_reducible repeat (first | refine blk_drewN ?_ _ | refine blk_drew ?_ | refine blk_alloc ?_ _)); exact BK101.out)) : gb105 ≠ gb101)); have n8_ := Aside0.mk ((by rw [hg]; exact Nat.ne_of_lt (blk_lt (g := gb102) (o := .cells #[.int .i64 0, .int .i64 0, .int .i64 0, .bool false, .int .i64 0, .slice none 0 0] 49 (0, 0)) (by (with_reducible repeat (first | refine blk_drewN ?_ _ | refine blk_drew ?_ | refine blk_alloc ?_ _)); exact BK102.out)) : gb102 ≠ gb105)); have n9_ := Aside0.mk ((by rw [hg]; exact Nat.ne_of_gt (blk_lt (g := gb102) (o := .cells #[.int .i64 0, .int .i64 0, .int .i64 0, .bool false, .int .i64 0, .slice none 0 0] 49 (0, 0)) (by (with_reducible repeat (first | refine blk_drewN ?_ _ | refine blk_drew ?_ | refine blk_alloc ?_ _)); exact BK102.out)) : gb105 ≠ gb102)); clear BK101; clear BK102; clear HB; have BK101 := n0_; have BK102 := n1_; have HB := n2_; have BK105 := n3_; have GW105 := n4_; have GE105 := n5_; have NB101_105 := n6_; have NB105_101 := n7_; have NB102_105 := n8_; have NB105_102 := n9_; clear n0_ n1_ n2_ n3_ n4_ n5_ n6_ n7_ n8_ n9_; clear hb hbox hg; have hnb27 := NB105_101.out; have hnc27 := NB101_105.out; have hnb28 := NB105_102.out; have hnc28 := NB102_105.out; (try clear hcz14_0 hcz14_1 hcz14_2 hcz14_3 hcz14_4 hfz14_0 hfz14_1 hfz14_2 hfz14_3 hfz14_4); (try clear hcz16_0 hcz16_1 hcz16_2 hcz16_3 hcz16_4 hfz16_0 hfz16_1 hfz16_2 hfz16_3 hfz16_4); (try clear hcz18_0 hcz18_1 hcz18_2 hcz18_3 hcz18_4 hfz18_0 hfz18_1 hfz18_2 hfz18_3 hfz18_4); (try clear hcz20_0 hcz20_1 hcz20_2 hcz20_3 hcz20_4 hfz20_0 hfz20_1 hfz20_2 hfz20_3 hfz20_4); (try clear hcz23_0 hcz23_1 hcz23_2 hcz23_3 hcz23_4 hcz23_5 hfz23_0 hfz23_1 hfz23_2 hfz23_3 hfz23_4 hfz23_5); (try clear hcz25_0 hcz25_1 hcz25_2 hcz25_3 hcz25_4 hfz25_0 hfz25_1 hfz25_2 hfz25_3 hfz25_4); have hcz29_0 : w26.cell? ⟨gb105, 0, none⟩ = some (.int .i64 0) := (blk_cell BK105.out 0).trans rfl; have hcz29_1 : w26.cell? ⟨gb105, 1, none⟩ = some (.int .i64 0) := (blk_cell BK105.out 1).trans rfl; have hcz29_2 : w26.cell? ⟨gb105, 2, none⟩ = some (.int .i64 0) := (blk_cell BK105.out 2).trans rfl; have hcz29_3 : w26.cell? ⟨gb105, 3, none⟩ = some (.bool false) := (blk_cell BK105.out 3).trans rfl; have hcz29_4 : w26.cell? ⟨gb105, 4, none⟩ = some (.int .i64 0) := (blk_cell BK105.out 4).trans rfl; have hcz29_5 : w26.cell? ⟨gb105, 5, none⟩ = some (.slice none 0 0) := (blk_cell BK105.out 5).trans rfl; have hfz29_0 := blk_frozen BK105.out 0; have hfz29_1 := blk_frozen BK105.out 1; have hfz29_2 := blk_frozen BK105.out 2; have hfz29_3 := blk_frozen BK105.out 3; have hfz29_4 := blk_frozen BK105.out 4; have hfz29_5 := blk_frozen BK105.out 5))
        go_loopg [5] kj1 (fun kq v5 w' => ∃ (x5_2 : Int) (x103000_2 : Int) (x103001_2 : Int) (x103002_2 : Int) (x103003_2 : Bool) (x103004_2 : Int) (x106005_2 : List (S55)) (u106005 : Value), v5 = .int .i64 x5_2 ∧ Aside0 (wimpleref4_GetOpt.l0 kq x5_2 a0_0 a0_1 a0_2 a0_3 a0_4 a0_2 (a0_3 / 16777216) (Go.bits .and .i64 (a0_3 / 65536) 255) ((Go.bits .and .i64 (a0_3 / 32768) 1) == 1) (Go.bits .and .i64 a0_3 32767) x106005_2 = some (r1, r2, r3, r4, r5, r6, r7)) ∧ Aside0 (kq ≤ kj1) ∧ Aside0 (Kd.R k55 55 w' w.heap.size (fun _ => True) u106005 x106005_2) ∧ Aside0 (w'.heap[gb101]? = some (.cells #[.string a0_0, .int .i64 a0_1, .int .i64 a0_2, .int .i64 a0_3, .string a0_4] 53 (0, 0))) ∧ Aside0 (w'.heap[gb102]? = some (.cells #[.int .i64 x103000_2, .int .i64 x103001_2, .int .i64 x103002_2, .bool x103003_2, .int .i64 x103004_2, (.slice none 0 0)] 49 (0, 0))) ∧ Aside0 (w'.heap[gb105]? = some (.cells #[.int .i64 a0_2, .int .i64 (a0_3 / 16777216), .int .i64 (Go.bits .and .i64 (a0_3 / 65536) 255), .bool ((Go.bits .and .i64 (a0_3 / 32768) 1) == 1), .int .i64 (Go.bits .and .i64 a0_3 32767), u106005] 49 (0, 0))) ∧ Aside0 (Below w.heap.size w w'))
        case atStart => exact ⟨(0), (0), (0), (0), (false), (0), (([] : List (S55))), (.slice none 0 0), (by first | rfl | (simp; done) | (simp [*]; done)), H', ⟨Nat.le_refl _⟩, ⟨by first | exact Kd.R_nil _ _ _ _ _ | exact Kd.N_nil _ _ _ _ _ | exact Kd.V_nil _ _ _ _ _ | exact Kd.Q_nil _ _ _ _ _ | exact Kd.S_nil _ _ _ _ _⟩, ⟨by (with_reducible repeat (first | refine blk_drewN ?_ _ | refine blk_drew ?_ | refine blk_alloc ?_ _)); refine blk_far ?_ NB101_105.out _; (with_reducible repeat (first | refine blk_drewN ?_ _ | refine blk_drew ?_ | refine blk_alloc ?_ _)); refine blk_far ?_ NB101_105.out _; (with_reducible repeat (first | refine blk_drewN ?_ _ | refine blk_drew ?_ | refine blk_alloc ?_ _)); refine blk_far ?_ NB101_105.out _; (with_reducible repeat (first | refine blk_drewN ?_ _ | refine blk_drew ?_ | refine blk_alloc ?_ _)); refine blk_far ?_ NB101_105.out _; (with_reducible repeat (first | refine blk_drewN ?_ _ | refine blk_drew ?_ | refine blk_alloc ?_ _)); refine blk_far ?_ NB101_105.out _; (with_reducible repeat (first | refine blk_drewN ?_ _ | refine blk_drew ?_ | refine blk_alloc ?_ _)); refine blk_far ?_ NB101_105.out _; (with_reducible repeat (first | refine blk_drewN ?_ _ | refine blk_drew ?_ | refine blk_alloc ?_ _)); exact BK101.out⟩, ⟨by (with_reducible repeat (first | refine blk_drewN ?_ _ | refine blk_drew ?_ | refine blk_alloc ?_ _)); refine blk_far ?_ NB102_105.out _; (with_reducible repeat (first | refine blk_drewN ?_ _ | refine blk_drew ?_ | refine blk_alloc ?_ _)); refine blk_far ?_ NB102_105.out _; (with_reducible repeat (first | refine blk_drewN ?_ _ | refine blk_drew ?_ | refine blk_alloc ?_ _)); refine blk_far ?_ NB102_105.out _; (with_reducible repeat (first | refine blk_drewN ?_ _ | refine blk_drew ?_ | refine blk_alloc ?_ _)); refine blk_far ?_ NB102_105.out _; (with_reducible repeat (first | refine blk_drewN ?_ _ | refine blk_drew ?_ | refine blk_alloc ?_ _)); refine blk_far ?_ NB102_105.out _; (with_reducible repeat (first | refine blk_drewN ?_ _ | refine blk_drew ?_ | refine blk_alloc ?_ _)); refine blk_far ?_ NB102_105.out _; (with_reducible repeat (first | refine blk_drewN ?_ _ | refine blk_drew ?_ | refine blk_alloc ?_ _)); exact BK102.out⟩, ⟨by (with_reducible repeat (first | refine blk_drewN ?_ _ | refine blk_drew ?_ | refine blk_alloc ?_ _)); refine blk_put (cs := #[.int .i64 a0_2, .int .i64 (a0_3 / 16777216), .int .i64 (Go.bits .and .i64 (a0_3 / 65536) 255), .bool ((Go.bits .and .i64 (a0_3 / 32768) 1) == 1), .int .i64 (Go.bits .and .i64 a0_3 32767), .slice none 0 0]) ?_ 5 _ rfl; (with_reducible repeat (first | refine blk_drewN ?_ _ | refine blk_drew ?_ | refine blk_alloc ?_ _)); refine blk_put (cs := #[.int .i64 a0_2, .int .i64 (a0_3 / 16777216), .int .i64 (Go.bits .and .i64 (a0_3 / 65536) 255), .bool ((Go.bits .and .i64 (a0_3 / 32768) 1) == 1), .int .i64 0, .slice none 0 0]) ?_ 4 _ rfl; (with_reducible repeat (first | refine blk_drewN ?_ _ | refine blk_drew ?_ | refine blk_alloc ?_ _)); refine blk_put (cs := #[.int .i64 a0_2, .int .i64 (a0_3 / 16777216), .int .i64 (Go.bits .and .i64 (a0_3 / 65536) 255), .bool false, .int .i64 0, .slice none 0 0]) ?_ 3 _ rfl; (with_reducible repeat (first | refine blk_drewN ?_ _ | refine blk_drew ?_ | refine blk_alloc ?_ _)); refine blk_put (cs := #[.int .i64 a0_2, .int .i64 (a0_3 / 16777216), .int .i64 0, .bool false, .int .i64 0, .slice none 0 0]) ?_ 2 _ rfl; (with_reducible repeat (first | refine blk_drewN ?_ _ | refine blk_drew ?_ | refine blk_alloc ?_ _)); refine blk_put (cs := #[.int .i64 a0_2, .int .i64 0, .int .i64 0, .bool false, .int .i64 0, .slice none 0 0]) ?_ 1 _ rfl; (with_reducible repeat (first | refine blk_drewN ?_ _ | refine blk_drew ?_ | refine blk_alloc ?_ _)); refine blk_put (cs := #[.int .i64 0, .int .i64 0, .int .i64 0, .bool false, .int .i64 0, .slice none 0 0]) ?_ 0 _ rfl; (with_reducible repeat (first | refine blk_drewN ?_ _ | refine blk_drew ?_ | refine blk_alloc ?_ _)); exact BK105.out⟩, ⟨by repeat (first | (with_reducible first | exact HB.out | apply below_alloc | apply pw_below_drewN | apply below_drew1 | refine below_set ?_ GE101.out | refine below_set ?_ GE102.out | refine below_set ?_ GE105.out) | exact HB.out)⟩⟩
        case round =>
          clear H'
          try clear c1
          try clear c2
          try clear p2
          try clear c5
          try clear c5b0
          try clear c5b1
          try clear c6
          try clear c6b0
          try clear c6b1
          try clear c8
          try clear c10
          try clear c11
          try clear c13
          try clear c15
          try clear c17
          try clear c19
          try clear c21
          try clear c22
          try clear c24
          try clear c27
          try clear c28
          try clear hcz12_0
          try clear hcz12_1
          try clear hcz12_2
          try clear hcz12_3
          try clear hcz12_4
          try clear hcz14_0
          try clear hcz14_1
          try clear hcz14_2
          try clear hcz14_3
          try clear hcz14_4
          try clear hcz16_0
          try clear hcz16_1
          try clear hcz16_2
          try clear hcz16_3
          try clear hcz16_4
          try clear hcz18_0
          try clear hcz18_1
          try clear hcz18_2
          try clear hcz18_3
          try clear hcz18_4
          try clear hcz20_0
          try clear hcz20_1
          try clear hcz20_2
          try clear hcz20_3
          try clear hcz20_4
          try clear hcz23_0
          try clear hcz23_1
          try clear hcz23_2
          try clear hcz23_3
          try clear hcz23_4
          try clear hcz23_5
          try clear hcz25_0
          try clear hcz25_1
          try clear hcz25_2
          try clear hcz25_3
          try clear hcz25_4
          try clear hcz29_0
          try clear hcz29_1
          try clear hcz29_2
          try clear hcz29_3
          try clear hcz29_4
          try clear hcz29_5
          try clear hfz12_0
          try clear hfz12_1
          try clear hfz12_2
          try clear hfz12_3
          try clear hfz12_4
          try clear hfz14_0
          try clear hfz14_1
          try clear hfz14_2
          try clear hfz14_3
          try clear hfz14_4
          try clear hfz16_0
          try clear hfz16_1
          try clear hfz16_2
          try clear hfz16_3
          try clear hfz16_4
          try clear hfz18_0
          try clear hfz18_1
          try clear hfz18_2
          try clear hfz18_3
          try clear hfz18_4
          try clear hfz20_0
          try clear hfz20_1
          try clear hfz20_2
          try clear hfz20_3
          try clear hfz20_4
          try clear hfz23_0
          try clear hfz23_1
          try clear hfz23_2
          try clear hfz23_3
          try clear hfz23_4
          try clear hfz23_5
          try clear hfz25_0
          try clear hfz25_1
          try clear hfz25_2
          try clear hfz25_3
          try clear hfz25_4
          try clear hfz29_0
          try clear hfz29_1
          try clear hfz29_2
          try clear hfz29_3
          try clear hfz29_4
          try clear hfz29_5
          try clear p2
          obtain ⟨x5_2, x103000_2, x103001_2, x103002_2, x103003_2, x103004_2, x106005_2, u106005, rfl, HA, HK2, HO_106005, BK101, BK102, BK105, HB⟩ := hrel
          cases gk with
          | zero => exact absurd HA.out (by simp [wimpleref4_GetOpt.l0])
          | succ k2 =>
            have H := HA.out
            clear HA
            simp only [wimpleref4_GetOpt.l0] at H
            by_cases c30 : x5_2 < (a0_4.size : Int)
            · rw [if_pos c30] at H
              have c30b0 : decide (x5_2 < (a0_4.size : Int)) = true := decide_eq_true c30
              clear c30
              replace H := Option.bind_eq_some_iff.mp H
              obtain ⟨⟨t106, t107, t108⟩, A310, H⟩ := H
              replace H : ((wimpleref1_Num.f k2 a0_4 t107 2).bind fun bt109 => (if t108 = 0 then (if bt109.2.2 = 0 then (if bt109.1 > (wrap64 ((a0_4.size : Int) - bt109.2.1)) then (some (0, 0, 0, false, 0, ([] : List (S55)), 800)) else (if 0 ≤ bt109.2.1 then (if bt109.2.1 ≤ (wrap64 (bt109.2.1 + bt109.1)) then (if (wrap64 (bt109.2.1 + bt109.1)) ≤ (a0_4.size : Int) then (if x106005_2.length < 5864062014805 then (wimpleref4_GetOpt.l0 k2 (wrap64 (bt109.2.1 + bt109.1)) a0_0 a0_1 a0_2 a0_3 a0_4 a0_2 (a0_3 / 16777216) (Go.bits .and .i64 (a0_3 / 65536) 255) ((Go.bits .and .i64 (a0_3 / 32768) 1) == 1) (Go.bits .and .i64 a0_3 32767) (x106005_2 ++ [(⟨t106, a0_4.extract (bt109.2.1 : Int).toNat ((wrap64 (bt109.2.1 + bt109.1)) : Int).toNat⟩ : S55)])) else (none)) else (none)) else (none)) else (none))) else (some (0, 0, 0, false, 0, ([] : List (S55)), 800))) else (some (0, 0, 0, false, 0, ([] : List (S55)), 800)))) = some (r1, r2, r3, r4, r5, r6, r7) := H
              have A31 := Aside0.mk A310
              clear A310
              replace H := Option.bind_eq_some_iff.mp H
              obtain ⟨⟨t109, t110, t111⟩, A320, H⟩ := H
              replace H : (if t108 = 0 then (if t111 = 0 then (if t109 > (wrap64 ((a0_4.size : Int) - t110)) then (some (0, 0, 0, false, 0, ([] : List (S55)), 800)) else (if 0 ≤ t110 then (if t110 ≤ (wrap64 (t110 + t109)) then (if (wrap64 (t110 + t109)) ≤ (a0_4.size : Int) then (if x106005_2.length < 5864062014805 then (wimpleref4_GetOpt.l0 k2 (wrap64 (t110 + t109)) a0_0 a0_1 a0_2 a0_3 a0_4 a0_2 (a0_3 / 16777216) (Go.bits .and .i64 (a0_3 / 65536) 255) ((Go.bits .and .i64 (a0_3 / 32768) 1) == 1) (Go.bits .and .i64 a0_3 32767) (x106005_2 ++ [(⟨t106, a0_4.extract (t110 : Int).toNat ((wrap64 (t110 + t109)) : Int).toNat⟩ : S55)])) else (none)) else (none)) else (none)) else (none))) else (some (0, 0, 0, false, 0, ([] : List (S55)), 800))) else (some (0, 0, 0, false, 0, ([] : List (S55)), 800))) = some (r1, r2, r3, r4, r5, r6, r7) := H
              have A32 := Aside0.mk A320
              clear A320
              by_cases c33 : t108 = 0
              · rw [if_pos c33] at H
                have c33b0 : (t108 == 0) = true := beq_iff_eq.mpr c33
                have c33b1 : (t108 != 0) = false := bne_eq_false_iff_eq.mpr c33
                clear c33
                by_cases c34 : t111 = 0
                · rw [if_pos c34] at H
                  have c34b0 : (t111 == 0) = true := beq_iff_eq.mpr c34
                  have c34b1 : (t111 != 0) = false := bne_eq_false_iff_eq.mpr c34
                  clear c34
                  by_cases c35 : t109 > (wrap64 ((a0_4.size : Int) - t110))
                  · rw [if_pos c35] at H
                    have c35b0 : decide ((wrap64 ((a0_4.size : Int) - t110)) < t109) = true := decide_eq_true c35
                    clear c35
                    simp only [Option.some.injEq, Prod.mk.injEq] at H
                    obtain ⟨rfl, rfl, rfl, rfl, rfl, rfl, rfl⟩ := H
                    have hnb36 := NB101_102.out
                    have hnc36 := NB102_101.out
                    have hnb37 := NB101_105.out
                    have hnc37 := NB105_101.out
                    (try clear hcz16_0 hcz16_1 hcz16_2 hcz16_3 hcz16_4 hfz16_0 hfz16_1 hfz16_2 hfz16_3 hfz16_4)
                    (try clear hcz18_0 hcz18_1 hcz18_2 hcz18_3 hcz18_4 hfz18_0 hfz18_1 hfz18_2 hfz18_3 hfz18_4)
                    (try clear hcz20_0 hcz20_1 hcz20_2 hcz20_3 hcz20_4 hfz20_0 hfz20_1 hfz20_2 hfz20_3 hfz20_4)
                    (try clear hcz23_0 hcz23_1 hcz23_2 hcz23_3 hcz23_4 hcz23_5 hfz23_0 hfz23_1 hfz23_2 hfz23_3 hfz23_4 hfz23_5)
                    (try clear hcz25_0 hcz25_1 hcz25_2 hcz25_3 hcz25_4 hfz25_0 hfz25_1 hfz25_2 hfz25_3 hfz25_4)
                    (try clear hcz29_0 hcz29_1 hcz29_2 hcz29_3 hcz29_4 hcz29_5 hfz29_0 hfz29_1 hfz29_2 hfz29_3 hfz29_4 hfz29_5)
                    have hcz38_0 : wr.cell? ⟨gb101, 0, none⟩ = some (.string a0_0) := (blk_cell BK101.out 0).trans rfl
                    have hcz38_1 : wr.cell? ⟨gb101, 1, none⟩ = some (.int .i64 a0_1) := (blk_cell BK101.out 1).trans rfl
                    have hcz38_2 : wr.cell? ⟨gb101, 2, none⟩ = some (.int .i64 a0_2) := (blk_cell BK101.out 2).trans rfl
                    have hcz38_3 : wr.cell? ⟨gb101, 3, none⟩ = some (.int .i64 a0_3) := (blk_cell BK101.out 3).trans rfl
                    have hcz38_4 : wr.cell? ⟨gb101, 4, none⟩ = some (.string a0_4) := (blk_cell BK101.out 4).trans rfl
                    have hfz38_0 := blk_frozen BK101.out 0
                    have hfz38_1 := blk_frozen BK101.out 1
                    have hfz38_2 := blk_frozen BK101.out 2
                    have hfz38_3 := blk_frozen BK101.out 3
                    have hfz38_4 := blk_frozen BK101.out 4
                    go_wp2_with (first | ((with_reducible refine gate_dst (N := 66) rfl ?_); (try (refine gate_guard (by rfl) ?_; dsimp only)); (with_reducible refine gate_callee (f := 54) rfl ?_); refine goesL_ (some 66) rfl rfl Try.func54 (by kernel_rfl) rfl #[.string a0_4, .int .i64 x5_2, .int .i64 2] rfl (by (try simp only [List.map_toArray, List.map_cons, List.map_nil]); first | done | rfl | (simp only [List.length_drop, List.length_take]; rfl)) ?_; (with_reducible refine (wimpleref1_Num.calls k2 a0_4 x5_2 2 t106 t107 t108 _ A31.out).mono ?_); rintro e w' ⟨rfl, ⟨nd, rfl⟩⟩; refine ⟨_, rfl, ?_⟩; (try (rw [drewN_self wr]; generalize hq_ : World.drewN wr _ = wr; have n0_ : Aside0 (Kd.R k55 55 wr w.heap.size (fun _ => True) u106005 x106005_2) := ⟨by rw [← hq_]; exact (by (with_reducible repeat (first | apply Kd.R_alloc | apply Kd.R_drewN | apply Kd.R_drew)); exact HO_106005.out)⟩; have n1_ : Aside0 (wr.heap[gb101]? = some (.cells #[.string a0_0, .int .i64 a0_1, .int .i64 a0_2, .int .i64 a0_3, .string a0_4] 53 (0, 0))) := ⟨by rw [← hq_]; exact (by (with_reducible repeat (first | refine blk_drewN ?_ _ | refine blk_drew ?_ | refine blk_alloc ?_ _)); exact BK101.out)⟩; have n2_ : Aside0 (wr.heap[gb102]? = some (.cells #[.int .i64 x103000_2, .int .i64 x103001_2, .int .i64 x103002_2, .bool x103003_2, .int .i64 x103004_2, .slice none 0 0] 49 (0, 0))) := ⟨by rw [← hq_]; exact (by (with_reducible repeat (first | refine blk_drewN ?_ _ | refine blk_drew ?_ | refine blk_alloc ?_ _)); exact BK102.out)⟩; have n3_ : Aside0 (wr.heap[gb105]? = some (.cells #[.int .i64 a0_2, .int .i64 (a0_3 / 16777216), .int .i64 (Go.bits .and .i64 (a0_3 / 65536) 255), .bool ((Go.bits .and .i64 (a0_3 / 32768) 1) == 1), .int .i64 (Go.bits .and .i64 a0_3 32767), u106005] 49 (0, 0))) := ⟨by rw [← hq_]; exact (by (with_reducible repeat (first | refine blk_drewN ?_ _ | refine blk_drew ?_ | refine blk_alloc ?_ _)); exact BK105.out)⟩; have n4_ : Aside0 (Below w.heap.size w wr) := ⟨by rw [← hq_]; exact (by repeat (first | (with_reducible first | exact HB.out | apply below_alloc | apply pw_below_drewN | apply below_drew1 | refine below_set ?_ GE101.out | refine below_set ?_ GE102.out | refine below_set ?_ GE105.out) | exact HB.out))⟩; clear HO_106005 BK101 BK102 BK105 HB hq_; have HO_106005 := n0_; have BK101 := n1_; have BK102 := n2_; have BK105 := n3_; have HB := n4_; clear n0_ n1_ n2_ n3_ n4_)); (try clear hcz18_0 hcz18_1 hcz18_2 hcz18_3 hcz18_4 hfz18_0 hfz18_1 hfz18_2 hfz18_3 hfz18_4); (try clear hcz20_0 hcz20_1 hcz20_2 hcz20_3 hcz20_4 hfz20_0 hfz20_1 hfz20_2 hfz20_3 hfz20_4); (try clear hcz23_0 hcz23_1 hcz23_2 hcz23_3 hcz23_4 hcz23_5 hfz23_0 hfz23_1 hfz23_2 hfz23_3 hfz23_4 hfz23_5); (try clear hcz25_0 hcz25_1 hcz25_2 hcz25_3 hcz25_4 hfz25_0 hfz25_1 hfz25_2 hfz25_3 hfz25_4); (try clear hcz29_0 hcz29_1 hcz29_2 hcz29_3 hcz29_4 hcz29_5 hfz29_0 hfz29_1 hfz29_2 hfz29_3 hfz29_4 hfz29_5); have hcz39_0 : wr.cell? ⟨gb101, 0, none⟩ = some (.string a0_0) := (blk_cell BK101.out 0).trans rfl; have hcz39_1 : wr.cell? ⟨gb101, 1, none⟩ = some (.int .i64 a0_1) := (blk_cell BK101.out 1).trans rfl; have hcz39_2 : wr.cell? ⟨gb101, 2, none⟩ = some (.int .i64 a0_2) := (blk_cell BK101.out 2).trans rfl; have hcz39_3 : wr.cell? ⟨gb101, 3, none⟩ = some (.int .i64 a0_3) := (blk_cell BK101.out 3).trans rfl; have hcz39_4 : wr.cell? ⟨gb101, 4, none⟩ = some (.string a0_4) := (blk_cell BK101.out 4).trans rfl; have hfz39_0 := blk_frozen BK101.out 0; have hfz39_1 := blk_frozen BK101.out 1; have hfz39_2 := blk_frozen BK101.out 2; have hfz39_3 := blk_frozen BK101.out 3; have hfz39_4 := blk_frozen BK101.out 4; (try clear hcz20_0 hcz20_1 hcz20_2 hcz20_3 hcz20_4 hfz20_0 hfz20_1 hfz20_2 hfz20_3 hfz20_4); (try clear hcz23_0 hcz23_1 hcz23_2 hcz23_3 hcz23_4 hcz23_5 hfz23_0 hfz23_1 hfz23_2 hfz23_3 hfz23_4 hfz23_5); (try clear hcz25_0 hcz25_1 hcz25_2 hcz25_3 hcz25_4 hfz25_0 hfz25_1 hfz25_2 hfz25_3 hfz25_4); (try clear hcz29_0 hcz29_1 hcz29_2 hcz29_3 hcz29_4 hcz29_5 hfz29_0 hfz29_1 hfz29_2 hfz29_3 hfz29_4 hfz29_5); have hcz40_0 : wr.cell? ⟨gb102, 0, none⟩ = some (.int .i64 x103000_2) := (blk_cell BK102.out 0).trans rfl; have hcz40_1 : wr.cell? ⟨gb102, 1, none⟩ = some (.int .i64 x103001_2) := (blk_cell BK102.out 1).trans rfl; have hcz40_2 : wr.cell? ⟨gb102, 2, none⟩ = some (.int .i64 x103002_2) := (blk_cell BK102.out 2).trans rfl; have hcz40_3 : wr.cell? ⟨gb102, 3, none⟩ = some (.bool x103003_2) := (blk_cell BK102.out 3).trans rfl; have hcz40_4 : wr.cell? ⟨gb102, 4, none⟩ = some (.int .i64 x103004_2) := (blk_cell BK102.out 4).trans rfl; have hcz40_5 : wr.cell? ⟨gb102, 5, none⟩ = some (.slice none 0 0) := (blk_cell BK102.out 5).trans rfl; have hfz40_0 := blk_frozen BK102.out 0; have hfz40_1 := blk_frozen BK102.out 1; have hfz40_2 := blk_frozen BK102.out 2; have hfz40_3 := blk_frozen BK102.out 3; have hfz40_4 := blk_frozen BK102.out 4; have hfz40_5 := blk_frozen BK102.out 5; (try clear hcz23_0 hcz23_1 hcz23_2 hcz23_3 hcz23_4 hcz23_5 hfz23_0 hfz23_1 hfz23_2 hfz23_3 hfz23_4 hfz23_5); (try clear hcz25_0 hcz25_1 hcz25_2 hcz25_3 hcz25_4 hfz25_0 hfz25_1 hfz25_2 hfz25_3 hfz25_4); (try clear hcz29_0 hcz29_1 hcz29_2 hcz29_3 hcz29_4 hcz29_5 hfz29_0 hfz29_1 hfz29_2 hfz29_3 hfz29_4 hfz29_5); have hcz41_0 : wr.cell? ⟨gb105, 0, none⟩ = some (.int .i64 a0_2) := (blk_cell BK105.out 0).trans rfl; have hcz41_1 : wr.cell? ⟨gb105, 1, none⟩ = some (.int .i64 (a0_3 / 16777216)) := (blk_cell BK105.out 1).trans rfl; have hcz41_2 : wr.cell? ⟨gb105, 2, none⟩ = some (.int .i64 (Go.bits .and .i64 (a0_3 / 65536) 255)) := (blk_cell BK105.out 2).trans rfl; have hcz41_3 : wr.cell? ⟨gb105, 3, none⟩ = some (.bool ((Go.bits .and .i64 (a0_3 / 32768) 1) == 1)) := (blk_cell BK105.out 3).trans rfl; have hcz41_4 : wr.cell? ⟨gb105, 4, none⟩ = some (.int .i64 (Go.bits .and .i64 a0_3 32767)) := (blk_cell BK105.out 4).trans rfl; have hcz41_5 : wr.cell? ⟨gb105, 5, none⟩ = some (u106005) := (blk_cell BK105.out 5).trans rfl; have hfz41_0 := blk_frozen BK105.out 0; have hfz41_1 := blk_frozen BK105.out 1; have hfz41_2 := blk_frozen BK105.out 2; have hfz41_3 := blk_frozen BK105.out 3; have hfz41_4 := blk_frozen BK105.out 4; have hfz41_5 := blk_frozen BK105.out 5) | ((with_reducible refine gate_dst (N := 74) rfl ?_); (try (refine gate_guard (by rfl) ?_; dsimp only)); (with_reducible refine gate_callee (f := 54) rfl ?_); refine goesL_ (some 74) rfl rfl Try.func54 (by kernel_rfl) rfl #[.string a0_4, .int .i64 t107, .int .i64 2] rfl (by (try simp only [List.map_toArray, List.map_cons, List.map_nil]); first | done | rfl | (simp only [List.length_drop, List.length_take]; rfl)) ?_; (with_reducible refine (wimpleref1_Num.calls k2 a0_4 t107 2 t109 t110 t111 _ A32.out).mono ?_); rintro e w' ⟨rfl, ⟨nd, rfl⟩⟩; refine ⟨_, rfl, ?_⟩; (try (rw [drewN_self wr]; generalize hq_ : World.drewN wr _ = wr; have n0_ : Aside0 (Kd.R k55 55 wr w.heap.size (fun _ => True) u106005 x106005_2) := ⟨by rw [← hq_]; exact (by (with_reducible repeat (first | apply Kd.R_alloc | apply Kd.R_drewN | apply Kd.R_drew)); exact HO_106005.out)⟩; have n1_ : Aside0 (wr.heap[gb101]? = some (.cells #[.string a0_0, .int .i64 a0_1, .int .i64 a0_2, .int .i64 a0_3, .string a0_4] 53 (0, 0))) := ⟨by rw [← hq_]; exact (by (with_reducible repeat (first | refine blk_drewN ?_ _ | refine blk_drew ?_ | refine blk_alloc ?_ _)); exact BK101.out)⟩; have n2_ : Aside0 (wr.heap[gb102]? = some (.cells #[.int .i64 x103000_2, .int .i64 x103001_2, .int .i64 x103002_2, .bool x103003_2, .int .i64 x103004_2, .slice none 0 0] 49 (0, 0))) := ⟨by rw [← hq_]; exact (by (with_reducible repeat (first | refine blk_drewN ?_ _ | refine blk_drew ?_ | refine blk_alloc ?_ _)); exact BK102.out)⟩; have n3_ : Aside0 (wr.heap[gb105]? = some (.cells #[.int .i64 a0_2, .int .i64 (a0_3 / 16777216), .int .i64 (Go.bits .and .i64 (a0_3 / 65536) 255), .bool ((Go.bits .and .i64 (a0_3 / 32768) 1) == 1), .int .i64 (Go.bits .and .i64 a0_3 32767), u106005] 49 (0, 0))) := ⟨by rw [← hq_]; exact (by (with_reducible repeat (first | refine blk_drewN ?_ _ | refine blk_drew ?_ | refine blk_alloc ?_ _)); exact BK105.out)⟩; have n4_ : Aside0 (Below w.heap.size w wr) := ⟨by rw [← hq_]; exact (by repeat (first | (with_reducible first | exact HB.out | apply below_alloc | apply pw_below_drewN | apply below_drew1 | refine below_set ?_ GE101.out | refine below_set ?_ GE102.out | refine below_set ?_ GE105.out) | exact HB.out))⟩; clear HO_106005 BK101 BK102 BK105 HB hq_; have HO_106005 := n0_; have BK101 := n1_; have BK102 := n2_; have BK105 := n3_; have HB := n4_; clear n0_ n1_ n2_ n3_ n4_)); (try clear hcz25_0 hcz25_1 hcz25_2 hcz25_3 hcz25_4 hfz25_0 hfz25_1 hfz25_2 hfz25_3 hfz25_4); (try clear hcz29_0 hcz29_1 hcz29_2 hcz29_3 hcz29_4 hcz29_5 hfz29_0 hfz29_1 hfz29_2 hfz29_3 hfz29_4 hfz29_5); have hcz42_0 : wr.cell? ⟨gb101, 0, none⟩ = some (.string a0_0) := (blk_cell BK101.out 0).trans rfl; have hcz42_1 : wr.cell? ⟨gb101, 1, none⟩ = some (.int .i64 a0_1) := (blk_cell BK101.out 1).trans rfl; have hcz42_2 : wr.cell? ⟨gb101, 2, none⟩ = some (.int .i64 a0_2) := (blk_cell BK101.out 2).trans rfl; have hcz42_3 : wr.cell? ⟨gb101, 3, none⟩ = some (.int .i64 a0_3) := (blk_cell BK101.out 3).trans rfl; have hcz42_4 : wr.cell? ⟨gb101, 4, none⟩ = some (.string a0_4) := (blk_cell BK101.out 4).trans rfl; have hfz42_0 := blk_frozen BK101.out 0; have hfz42_1 := blk_frozen BK101.out 1; have hfz42_2 := blk_frozen BK101.out 2; have hfz42_3 := blk_frozen BK101.out 3; have hfz42_4 := blk_frozen BK101.out 4; (try clear hcz29_0 hcz29_1 hcz29_2 hcz29_3 hcz29_4 hcz29_5 hfz29_0 hfz29_1 hfz29_2 hfz29_3 hfz29_4 hfz29_5); have hcz43_0 : wr.cell? ⟨gb102, 0, none⟩ = some (.int .i64 x103000_2) := (blk_cell BK102.out 0).trans rfl; have hcz43_1 : wr.cell? ⟨gb102, 1, none⟩ = some (.int .i64 x103001_2) := (blk_cell BK102.out 1).trans rfl; have hcz43_2 : wr.cell? ⟨gb102, 2, none⟩ = some (.int .i64 x103002_2) := (blk_cell BK102.out 2).trans rfl; have hcz43_3 : wr.cell? ⟨gb102, 3, none⟩ = some (.bool x103003_2) := (blk_cell BK102.out 3).trans rfl; have hcz43_4 : wr.cell? ⟨gb102, 4, none⟩ = some (.int .i64 x103004_2) := (blk_cell BK102.out 4).trans rfl; have hcz43_5 : wr.cell? ⟨gb102, 5, none⟩ = some (.slice none 0 0) := (blk_cell BK102.out 5).trans rfl; have hfz43_0 := blk_frozen BK102.out 0; have hfz43_1 := blk_frozen BK102.out 1; have hfz43_2 := blk_frozen BK102.out 2; have hfz43_3 := blk_frozen BK102.out 3; have hfz43_4 := blk_frozen BK102.out 4; have hfz43_5 := blk_frozen BK102.out 5; have hcz44_0 : wr.cell? ⟨gb105, 0, none⟩ = some (.int .i64 a0_2) := (blk_cell BK105.out 0).trans rfl; have hcz44_1 : wr.cell? ⟨gb105, 1, none⟩ = some (.int .i64 (a0_3 / 16777216)) := (blk_cell BK105.out 1).trans rfl; have hcz44_2 : wr.cell? ⟨gb105, 2, none⟩ = some (.int .i64 (Go.bits .and .i64 (a0_3 / 65536) 255)) := (blk_cell BK105.out 2).trans rfl; have hcz44_3 : wr.cell? ⟨gb105, 3, none⟩ = some (.bool ((Go.bits .and .i64 (a0_3 / 32768) 1) == 1)) := (blk_cell BK105.out 3).trans rfl; have hcz44_4 : wr.cell? ⟨gb105, 4, none⟩ = some (.int .i64 (Go.bits .and .i64 a0_3 32767)) := (blk_cell BK105.out 4).trans rfl; have hcz44_5 : wr.cell? ⟨gb105, 5, none⟩ = some (u106005) := (blk_cell BK105.out 5).trans rfl; have hfz44_0 := blk_frozen BK105.out 0; have hfz44_1 := blk_frozen BK105.out 1; have hfz44_2 := blk_frozen BK105.out 2; have hfz44_3 := blk_frozen BK105.out 3; have hfz44_4 := blk_frozen BK105.out 4; have hfz44_5 := blk_frozen BK105.out 5))
                    refine bodyPost_ret (results_ct rfl _ _ gb102 49 #[.int .i64 0, .int .i64 0, .int .i64 0, .bool false, .int .i64 0, .slice none 0 0] (0, 0) _ rfl (by (with_reducible repeat (first | refine blk_drewN ?_ _ | refine blk_drew ?_ | refine blk_alloc ?_ _)); refine blk_put (cs := #[.int .i64 0, .int .i64 0, .int .i64 0, .bool false, .int .i64 0, .slice none 0 0]) ?_ 5 _ rfl; (with_reducible repeat (first | refine blk_drewN ?_ _ | refine blk_drew ?_ | refine blk_alloc ?_ _)); refine blk_put (cs := #[.int .i64 0, .int .i64 0, .int .i64 0, .bool false, .int .i64 x103004_2, .slice none 0 0]) ?_ 4 _ rfl; (with_reducible repeat (first | refine blk_drewN ?_ _ | refine blk_drew ?_ | refine blk_alloc ?_ _)); refine blk_put (cs := #[.int .i64 0, .int .i64 0, .int .i64 0, .bool x103003_2, .int .i64 x103004_2, .slice none 0 0]) ?_ 3 _ rfl; (with_reducible repeat (first | refine blk_drewN ?_ _ | refine blk_drew ?_ | refine blk_alloc ?_ _)); refine blk_put (cs := #[.int .i64 0, .int .i64 0, .int .i64 x103002_2, .bool x103003_2, .int .i64 x103004_2, .slice none 0 0]) ?_ 2 _ rfl; (with_reducible repeat (first | refine blk_drewN ?_ _ | refine blk_drew ?_ | refine blk_alloc ?_ _)); refine blk_put (cs := #[.int .i64 0, .int .i64 x103001_2, .int .i64 x103002_2, .bool x103003_2, .int .i64 x103004_2, .slice none 0 0]) ?_ 1 _ rfl; (with_reducible repeat (first | refine blk_drewN ?_ _ | refine blk_drew ?_ | refine blk_alloc ?_ _)); refine blk_put (cs := #[.int .i64 x103000_2, .int .i64 x103001_2, .int .i64 x103002_2, .bool x103003_2, .int .i64 x103004_2, .slice none 0 0]) ?_ 0 _ rfl; (with_reducible repeat (first | refine blk_drewN ?_ _ | refine blk_drew ?_ | refine blk_alloc ?_ _)); exact BK102.out) Try.underlying49 rfl (by kernel_rfl)) rfl ?_
                    exact ⟨_, by first | rfl | (simp [errW_none, errW_some] <;> rfl) | (simp [*, errW_none, errW_some] <;> rfl), by first | exact Kd.R_nil _ _ _ _ _ | exact Kd.N_nil _ _ _ _ _ | exact Kd.V_nil _ _ _ _ _ | exact Kd.Q_nil _ _ _ _ _ | exact Kd.S_nil _ _ _ _ _, by repeat (first | (with_reducible first | exact HB.out | apply below_alloc | apply pw_below_drewN | apply below_drew1 | refine below_set ?_ GE101.out | refine below_set ?_ GE102.out | refine below_set ?_ GE105.out) | exact HB.out)⟩
                  · rw [if_neg c35] at H
                    have c35b0 : decide ((wrap64 ((a0_4.size : Int) - t110)) < t109) = false := decide_eq_false c35
                    clear c35
                    by_cases c45 : 0 ≤ t110
                    · rw [if_pos c45] at H
                      have c45b0 := eq_true c45
                      have c45b1 : decide (0 ≤ t110) = true := decide_eq_true c45
                      clear c45
                      by_cases c46 : t110 ≤ (wrap64 (t110 + t109))
                      · rw [if_pos c46] at H
                        have c46b0 := eq_true c46
                        have c46b1 : decide (t110 ≤ (wrap64 (t110 + t109))) = true := decide_eq_true c46
                        by_cases c47 : (wrap64 (t110 + t109)) ≤ (a0_4.size : Int)
                        · rw [if_pos c47] at H
                          have c47b0 := eq_true c47
                          have c47b1 : decide ((wrap64 (t110 + t109)) ≤ (a0_4.size : Int)) = true := decide_eq_true c47
                          by_cases c48 : x106005_2.length < 5864062014805
                          · rw [if_pos c48] at H
                            have LMc48 := Aside0.mk c48
                            clear c48
                            obtain ⟨y112, hy112⟩ : ∃ y_ : List (S55), y_ = (x106005_2 ++ [(⟨t106, a0_4.extract (t110 : Int).toNat ((wrap64 (t110 + t109)) : Int).toNat⟩ : S55)]) := ⟨_, rfl⟩
                            replace H : (wimpleref4_GetOpt.l0 k2 (wrap64 (t110 + t109)) a0_0 a0_1 a0_2 a0_3 a0_4 a0_2 (a0_3 / 16777216) (Go.bits .and .i64 (a0_3 / 65536) 255) ((Go.bits .and .i64 (a0_3 / 32768) 1) == 1) (Go.bits .and .i64 a0_3 32767) y112) = some (r1, r2, r3, r4, r5, r6, r7) := by first | (rw [hy112]; with_reducible exact H) | (have H2_ := (Option.bind_some _ _).symm.trans H; rw [hy112]; with_reducible exact H2_) | (have H2_ := (Option.bind_some _ _).symm.trans H; with_reducible exact H2_) | with_reducible exact H | (rw [hy112]; exact H) | exact H
                            have Ny112 := Aside0.mk hy112
                            clear hy112
                            have H' := Aside0.mk H
                            clear H
                            have hnb49 := NB101_102.out
                            have hnc49 := NB102_101.out
                            have hnb50 := NB101_105.out
                            have hnc50 := NB105_101.out
                            have hcz51_0 : wr.cell? ⟨gb101, 0, none⟩ = some (.string a0_0) := (blk_cell BK101.out 0).trans rfl
                            have hcz51_1 : wr.cell? ⟨gb101, 1, none⟩ = some (.int .i64 a0_1) := (blk_cell BK101.out 1).trans rfl
                            have hcz51_2 : wr.cell? ⟨gb101, 2, none⟩ = some (.int .i64 a0_2) := (blk_cell BK101.out 2).trans rfl
                            have hcz51_3 : wr.cell? ⟨gb101, 3, none⟩ = some (.int .i64 a0_3) := (blk_cell BK101.out 3).trans rfl
                            have hcz51_4 : wr.cell? ⟨gb101, 4, none⟩ = some (.string a0_4) := (blk_cell BK101.out 4).trans rfl
                            have hfz51_0 := blk_frozen BK101.out 0
                            have hfz51_1 := blk_frozen BK101.out 1
                            have hfz51_2 := blk_frozen BK101.out 2
                            have hfz51_3 := blk_frozen BK101.out 3
                            have hfz51_4 := blk_frozen BK101.out 4
                            try go_wp2_with (first | ((with_reducible refine gate_dst (N := 66) rfl ?_); (try (refine gate_guard (by rfl) ?_; dsimp only)); (with_reducible refine gate_callee (f := 54) rfl ?_); refine goesL_ (some 66) rfl rfl Try.func54 (by kernel_rfl) rfl #[.string a0_4, .int .i64 x5_2, .int .i64 2] rfl (by (try simp only [List.map_toArray, List.map_cons, List.map_nil]); first | done | rfl | (simp only [List.length_drop, List.length_take]; rfl)) ?_; (with_reducible refine (wimpleref1_Num.calls k2 a0_4 x5_2 2 t106 t107 t108 _ A31.out).mono ?_); rintro e w' ⟨rfl, ⟨nd, rfl⟩⟩; refine ⟨_, rfl, ?_⟩; (try (rw [drewN_self wr]; generalize hq_ : World.drewN wr _ = wr; have n0_ : Aside0 (Kd.R k55 55 wr w.heap.size (fun _ => True) u106005 x106005_2) := ⟨by rw [← hq_]; exact (by (with_reducible repeat (first | apply Kd.R_alloc | apply Kd.R_drewN | apply Kd.R_drew)); exact HO_106005.out)⟩; have n1_ : Aside0 (wr.heap[gb101]? = some (.cells #[.string a0_0, .int .i64 a0_1, .int .i64 a0_2, .int .i64 a0_3, .string a0_4] 53 (0, 0))) := ⟨by rw [← hq_]; exact (by (with_reducible repeat (first | refine blk_drewN ?_ _ | refine blk_drew ?_ | refine blk_alloc ?_ _)); exact BK101.out)⟩; have n2_ : Aside0 (wr.heap[gb102]? = some (.cells #[.int .i64 x103000_2, .int .i64 x103001_2, .int .i64 x103002_2, .bool x103003_2, .int .i64 x103004_2, .slice none 0 0] 49 (0, 0))) := ⟨by rw [← hq_]; exact (by (with_reducible repeat (first | refine blk_drewN ?_ _ | refine blk_drew ?_ | refine blk_alloc ?_ _)); exact BK102.out)⟩; have n3_ : Aside0 (wr.heap[gb105]? = some (.cells #[.int .i64 a0_2, .int .i64 (a0_3 / 16777216), .int .i64 (Go.bits .and .i64 (a0_3 / 65536) 255), .bool ((Go.bits .and .i64 (a0_3 / 32768) 1) == 1), .int .i64 (Go.bits .and .i64 a0_3 32767), u106005] 49 (0, 0))) := ⟨by rw [← hq_]; exact (by (with_reducible repeat (first | refine blk_drewN ?_ _ | refine blk_drew ?_ | refine blk_alloc ?_ _)); exact BK105.out)⟩; have n4_ : Aside0 (Below w.heap.size w wr) := ⟨by rw [← hq_]; exact (by repeat (first | (with_reducible first | exact HB.out | apply below_alloc | apply pw_below_drewN | apply below_drew1 | refine below_set ?_ GE101.out | refine below_set ?_ GE102.out | refine below_set ?_ GE105.out) | exact HB.out))⟩; clear HO_106005 BK101 BK102 BK105 HB hq_; have HO_106005 := n0_; have BK101 := n1_; have BK102 := n2_; have BK105 := n3_; have HB := n4_; clear n0_ n1_ n2_ n3_ n4_)); have hcz52_0 : wr.cell? ⟨gb101, 0, none⟩ = some (.string a0_0) := (blk_cell BK101.out 0).trans rfl; have hcz52_1 : wr.cell? ⟨gb101, 1, none⟩ = some (.int .i64 a0_1) := (blk_cell BK101.out 1).trans rfl; have hcz52_2 : wr.cell? ⟨gb101, 2, none⟩ = some (.int .i64 a0_2) := (blk_cell BK101.out 2).trans rfl; have hcz52_3 : wr.cell? ⟨gb101, 3, none⟩ = some (.int .i64 a0_3) := (blk_cell BK101.out 3).trans rfl; have hcz52_4 : wr.cell? ⟨gb101, 4, none⟩ = some (.string a0_4) := (blk_cell BK101.out 4).trans rfl; have hfz52_0 := blk_frozen BK101.out 0; have hfz52_1 := blk_frozen BK101.out 1; have hfz52_2 := blk_frozen BK101.out 2; have hfz52_3 := blk_frozen BK101.out 3; have hfz52_4 := blk_frozen BK101.out 4; have hcz53_0 : wr.cell? ⟨gb102, 0, none⟩ = some (.int .i64 x103000_2) := (blk_cell BK102.out 0).trans rfl; have hcz53_1 : wr.cell? ⟨gb102, 1, none⟩ = some (.int .i64 x103001_2) := (blk_cell BK102.out 1).trans rfl; have hcz53_2 : wr.cell? ⟨gb102, 2, none⟩ = some (.int .i64 x103002_2) := (blk_cell BK102.out 2).trans rfl; have hcz53_3 : wr.cell? ⟨gb102, 3, none⟩ = some (.bool x103003_2) := (blk_cell BK102.out 3).trans rfl; have hcz53_4 : wr.cell? ⟨gb102, 4, none⟩ = some (.int .i64 x103004_2) := (blk_cell BK102.out 4).trans rfl; have hcz53_5 : wr.cell? ⟨gb102, 5, none⟩ = some (.slice none 0 0) := (blk_cell BK102.out 5).trans rfl; have hfz53_0 := blk_frozen BK102.out 0; have hfz53_1 := blk_frozen BK102.out 1; have hfz53_2 := blk_frozen BK102.out 2; have hfz53_3 := blk_frozen BK102.out 3; have hfz53_4 := blk_frozen BK102.out 4; have hfz53_5 := blk_frozen BK102.out 5; have hcz54_0 : wr.cell? ⟨gb105, 0, none⟩ = some (.int .i64 a0_2) := (blk_cell BK105.out 0).trans rfl; have hcz54_1 : wr.cell? ⟨gb105, 1, none⟩ = some (.int .i64 (a0_3 / 16777216)) := (blk_cell BK105.out 1).trans rfl; have hcz54_2 : wr.cell? ⟨gb105, 2, none⟩ = some (.int .i64 (Go.bits .and .i64 (a0_3 / 65536) 255)) := (blk_cell BK105.out 2).trans rfl; have hcz54_3 : wr.cell? ⟨gb105, 3, none⟩ = some (.bool ((Go.bits .and .i64 (a0_3 / 32768) 1) == 1)) := (blk_cell BK105.out 3).trans rfl; have hcz54_4 : wr.cell? ⟨gb105, 4, none⟩ = some (.int .i64 (Go.bits .and .i64 a0_3 32767)) := (blk_cell BK105.out 4).trans rfl; have hcz54_5 : wr.cell? ⟨gb105, 5, none⟩ = some (u106005) := (blk_cell BK105.out 5).trans rfl; have hfz54_0 := blk_frozen BK105.out 0; have hfz54_1 := blk_frozen BK105.out 1; have hfz54_2 := blk_frozen BK105.out 2; have hfz54_3 := blk_frozen BK105.out 3; have hfz54_4 := blk_frozen BK105.out 4; have hfz54_5 := blk_frozen BK105.out 5) | ((with_reducible refine gate_dst (N := 74) rfl ?_); (try (refine gate_guard (by rfl) ?_; dsimp only)); (with_reducible refine gate_callee (f := 54) rfl ?_); refine goesL_ (some 74) rfl rfl Try.func54 (by kernel_rfl) rfl #[.string a0_4, .int .i64 t107, .int .i64 2] rfl (by (try simp only [List.map_toArray, List.map_cons, List.map_nil]); first | done | rfl | (simp only [List.length_drop, List.length_take]; rfl)) ?_; (with_reducible refine (wimpleref1_Num.calls k2 a0_4 t107 2 t109 t110 t111 _ A32.out).mono ?_); rintro e w' ⟨rfl, ⟨nd, rfl⟩⟩; refine ⟨_, rfl, ?_⟩; (try (rw [drewN_self wr]; generalize hq_ : World.drewN wr _ = wr; have n0_ : Aside0 (Kd.R k55 55 wr w.heap.size (fun _ => True) u106005 x106005_2) := ⟨by rw [← hq_]; exact (by (with_reducible repeat (first | apply Kd.R_alloc | apply Kd.R_drewN | apply Kd.R_drew)); exact HO_106005.out)⟩; have n1_ : Aside0 (wr.heap[gb101]? = some (.cells #[.string a0_0, .int .i64 a0_1, .int .i64 a0_2, .int .i64 a0_3, .string a0_4] 53 (0, 0))) := ⟨by rw [← hq_]; exact (by (with_reducible repeat (first | refine blk_drewN ?_ _ | refine blk_drew ?_ | refine blk_alloc ?_ _)); exact BK101.out)⟩; have n2_ : Aside0 (wr.heap[gb102]? = some (.cells #[.int .i64 x103000_2, .int .i64 x103001_2, .int .i64 x103002_2, .bool x103003_2, .int .i64 x103004_2, .slice none 0 0] 49 (0, 0))) := ⟨by rw [← hq_]; exact (by (with_reducible repeat (first | refine blk_drewN ?_ _ | refine blk_drew ?_ | refine blk_alloc ?_ _)); exact BK102.out)⟩; have n3_ : Aside0 (wr.heap[gb105]? = some (.cells #[.int .i64 a0_2, .int .i64 (a0_3 / 16777216), .int .i64 (Go.bits .and .i64 (a0_3 / 65536) 255), .bool ((Go.bits .and .i64 (a0_3 / 32768) 1) == 1), .int .i64 (Go.bits .and .i64 a0_3 32767), u106005] 49 (0, 0))) := ⟨by rw [← hq_]; exact (by (with_reducible repeat (first | refine blk_drewN ?_ _ | refine blk_drew ?_ | refine blk_alloc ?_ _)); exact BK105.out)⟩; have n4_ : Aside0 (Below w.heap.size w wr) := ⟨by rw [← hq_]; exact (by repeat (first | (with_reducible first | exact HB.out | apply below_alloc | apply pw_below_drewN | apply below_drew1 | refine below_set ?_ GE101.out | refine below_set ?_ GE102.out | refine below_set ?_ GE105.out) | exact HB.out))⟩; clear HO_106005 BK101 BK102 BK105 HB hq_; have HO_106005 := n0_; have BK101 := n1_; have BK102 := n2_; have BK105 := n3_; have HB := n4_; clear n0_ n1_ n2_ n3_ n4_)); have hcz55_0 : wr.cell? ⟨gb101, 0, none⟩ = some (.string a0_0) := (blk_cell BK101.out 0).trans rfl; have hcz55_1 : wr.cell? ⟨gb101, 1, none⟩ = some (.int .i64 a0_1) := (blk_cell BK101.out 1).trans rfl; have hcz55_2 : wr.cell? ⟨gb101, 2, none⟩ = some (.int .i64 a0_2) := (blk_cell BK101.out 2).trans rfl; have hcz55_3 : wr.cell? ⟨gb101, 3, none⟩ = some (.int .i64 a0_3) := (blk_cell BK101.out 3).trans rfl; have hcz55_4 : wr.cell? ⟨gb101, 4, none⟩ = some (.string a0_4) := (blk_cell BK101.out 4).trans rfl; have hfz55_0 := blk_frozen BK101.out 0; have hfz55_1 := blk_frozen BK101.out 1; have hfz55_2 := blk_frozen BK101.out 2; have hfz55_3 := blk_frozen BK101.out 3; have hfz55_4 := blk_frozen BK101.out 4; have hcz56_0 : wr.cell? ⟨gb102, 0, none⟩ = some (.int .i64 x103000_2) := (blk_cell BK102.out 0).trans rfl; have hcz56_1 : wr.cell? ⟨gb102, 1, none⟩ = some (.int .i64 x103001_2) := (blk_cell BK102.out 1).trans rfl; have hcz56_2 : wr.cell? ⟨gb102, 2, none⟩ = some (.int .i64 x103002_2) := (blk_cell BK102.out 2).trans rfl; have hcz56_3 : wr.cell? ⟨gb102, 3, none⟩ = some (.bool x103003_2) := (blk_cell BK102.out 3).trans rfl; have hcz56_4 : wr.cell? ⟨gb102, 4, none⟩ = some (.int .i64 x103004_2) := (blk_cell BK102.out 4).trans rfl; have hcz56_5 : wr.cell? ⟨gb102, 5, none⟩ = some (.slice none 0 0) := (blk_cell BK102.out 5).trans rfl; have hfz56_0 := blk_frozen BK102.out 0; have hfz56_1 := blk_frozen BK102.out 1; have hfz56_2 := blk_frozen BK102.out 2; have hfz56_3 := blk_frozen BK102.out 3; have hfz56_4 := blk_frozen BK102.out 4; have hfz56_5 := blk_frozen BK102.out 5; have hcz57_0 : wr.cell? ⟨gb105, 0, none⟩ = some (.int .i64 a0_2) := (blk_cell BK105.out 0).trans rfl; have hcz57_1 : wr.cell? ⟨gb105, 1, none⟩ = some (.int .i64 (a0_3 / 16777216)) := (blk_cell BK105.out 1).trans rfl; have hcz57_2 : wr.cell? ⟨gb105, 2, none⟩ = some (.int .i64 (Go.bits .and .i64 (a0_3 / 65536) 255)) := (blk_cell BK105.out 2).trans rfl; have hcz57_3 : wr.cell? ⟨gb105, 3, none⟩ = some (.bool ((Go.bits .and .i64 (a0_3 / 32768) 1) == 1)) := (blk_cell BK105.out 3).trans rfl; have hcz57_4 : wr.cell? ⟨gb105, 4, none⟩ = some (.int .i64 (Go.bits .and .i64 a0_3 32767)) := (blk_cell BK105.out 4).trans rfl; have hcz57_5 : wr.cell? ⟨gb105, 5, none⟩ = some (u106005) := (blk_cell BK105.out 5).trans rfl; have hfz57_0 := blk_frozen BK105.out 0; have hfz57_1 := blk_frozen BK105.out 1; have hfz57_2 := blk_frozen BK105.out 2; have hfz57_3 := blk_frozen BK105.out 3; have hfz57_4 := blk_frozen BK105.out 4; have hfz57_5 := blk_frozen BK105.out 5))
                            have n0_ := Aside0.mk (Kd.R_drew HO_106005.out)
                            have n1_ := Aside0.mk (blk_drew BK101.out)
                            have n2_ := Aside0.mk (blk_drew BK102.out)
                            have n3_ := Aside0.mk (blk_drew BK105.out)
                            have n4_ := Aside0.mk (below_drew1 HB.out)
                            clear HO_106005
                            clear BK101
                            clear BK102
                            clear BK105
                            clear HB
                            have HO_106005 := n0_
                            have BK101 := n1_
                            have BK102 := n2_
                            have BK105 := n3_
                            have HB := n4_
                            clear n0_ n1_ n2_ n3_ n4_
                            refine start_ (n := 15) (S := fun w' => w'.cell? ⟨gb105, 0, none⟩ = some (.int .i64 a0_2) ∧ w'.cell? ⟨gb105, 1, none⟩ = some (.int .i64 (a0_3 / 16777216)) ∧ w'.cell? ⟨gb105, 2, none⟩ = some (.int .i64 (Go.bits .and .i64 (a0_3 / 65536) 255)) ∧ w'.cell? ⟨gb105, 3, none⟩ = some (.bool ((Go.bits .and .i64 (a0_3 / 32768) 1) == 1)) ∧ w'.cell? ⟨gb105, 4, none⟩ = some (.int .i64 (Go.bits .and .i64 a0_3 32767)) ∧ w'.cell? ⟨gb105, 5, none⟩ = some (u106005) ∧ w'.cell? ⟨gb101, 0, none⟩ = some (.string a0_0) ∧ w'.cell? ⟨gb101, 1, none⟩ = some (.int .i64 a0_1) ∧ w'.cell? ⟨gb101, 2, none⟩ = some (.int .i64 a0_2) ∧ w'.cell? ⟨gb101, 3, none⟩ = some (.int .i64 a0_3) ∧ w'.cell? ⟨gb101, 4, none⟩ = some (.string a0_4)) (ds := [14]) #[false, false, false, false, false, false, false, false, false, false, false, false, false, false, false] (by kernel_rfl) rfl rfl ⟨(blk_cell BK105.out 0).trans rfl, (blk_cell BK105.out 1).trans rfl, (blk_cell BK105.out 2).trans rfl, (blk_cell BK105.out 3).trans rfl, (blk_cell BK105.out 4).trans rfl, (blk_cell BK105.out 5).trans rfl, (blk_cell BK101.out 0).trans rfl, (blk_cell BK101.out 1).trans rfl, (blk_cell BK101.out 2).trans rfl, (blk_cell BK101.out 3).trans rfl, (blk_cell BK101.out 4).trans rfl⟩ (fun hHeld => ?_); refine with_tabW wimpleref4_GetOpt.tab10 wimpleref4_GetOpt.bits10 (fun HT_ HW_ => ?_)
                            generalize wr.drew = w58 at HO_106005 BK101 BK102 BK105 HB hHeld ⊢
                            refine pure_ (i := 0) (N := some 94) (v := ?_) (a' := ?_) #[true, false, false, false, false, false, false, false, false, false, false, false, false, false, false] rfl rfl (any_of HT_.out (by kernel_rfl)) (fun _ _ _ h => h) (Or.inl ⟨by rfl, ?_⟩) ?_ ?_
                            rotate_left
                            · intro w'
                              go_simp
                              with_reducible rfl
                            rotate_left
                            · simp only [Act.put, List.setIfInBounds_toArray, List.set_cons_zero, List.set_cons_succ, i64_w, i32_w]
                              rfl
                            refine pure_ (i := 2) (N := some 96) (v := ?_) (a' := ?_) #[true, false, true, false, false, false, false, false, false, false, false, false, false, false, false] rfl rfl (any_of HT_.out (by kernel_rfl)) (fun _ _ _ h => h) (Or.inl ⟨by rfl, ?_⟩) ?_ ?_
                            rotate_left
                            · intro w'
                              go_simp
                              with_reducible rfl
                            rotate_left
                            · simp only [Act.put, List.setIfInBounds_toArray, List.set_cons_zero, List.set_cons_succ, i64_w, i32_w]
                              rfl
                            refine pure_ (i := 3) (N := some 97) (v := ?_) (a' := ?_) #[true, false, true, true, false, false, false, false, false, false, false, false, false, false, false] rfl rfl (any_of HT_.out (by kernel_rfl)) (fun _ _ _ h => h) (Or.inl ⟨by rfl, ?_⟩) ?_ ?_
                            rotate_left
                            · intro w'
                              go_simp
                              with_reducible rfl
                            rotate_left
                            · simp only [Act.put, List.setIfInBounds_toArray, List.set_cons_zero, List.set_cons_succ, i64_w, i32_w]
                              rfl
                            refine pure_ (i := 5) (N := some 99) (v := ?_) (a' := ?_) #[true, false, true, true, false, true, false, false, false, false, false, false, false, false, false] rfl rfl (any_of HT_.out (by kernel_rfl)) (fun _ _ _ h => h) (Or.inl ⟨by rfl, ?_⟩) ?_ ?_
                            rotate_left
                            · intro w'
                              go_simp
                              with_reducible rfl
                            rotate_left
                            · simp only [Act.put, List.setIfInBounds_toArray, List.set_cons_zero, List.set_cons_succ, i64_w, i32_w]
                              rfl
                            refine pure_ (i := 6) (N := some 100) (v := ?_) (a' := ?_) #[true, false, true, true, false, true, true, false, false, false, false, false, false, false, false] rfl rfl (any_of HT_.out (by kernel_rfl)) (fun _ _ _ h => h) (Or.inl ⟨by rfl, ?_⟩) ?_ ?_
                            rotate_left
                            · intro w'
                              go_simp
                              with_reducible rfl
                            rotate_left
                            · simp only [Act.put, List.setIfInBounds_toArray, List.set_cons_zero, List.set_cons_succ, i64_w, i32_w]
                              rfl
                            refine pure_ (i := 7) (N := some 101) (v := ?_) (a' := ?_) #[true, false, true, true, false, true, true, true, false, false, false, false, false, false, false] rfl rfl (any_of HT_.out (by kernel_rfl)) (fun _ _ _ h => h) (Or.inl ⟨by rfl, ?_⟩) ?_ ?_
                            rotate_left
                            · intro w'
                              go_simp
                              with_reducible rfl
                            rotate_left
                            · simp only [Act.put, List.setIfInBounds_toArray, List.set_cons_zero, List.set_cons_succ, i64_w, i32_w]
                              rfl
                            refine pure_ (i := 8) (N := some 102) (v := ?_) (a' := ?_) #[true, false, true, true, false, true, true, true, true, false, false, false, false, false, false] rfl rfl (any_of HT_.out (by kernel_rfl)) (fun _ _ _ h => h) (Or.inl ⟨by rfl, ?_⟩) ?_ ?_
                            rotate_left
                            · intro w'
                              go_simp
                              with_reducible rfl
                            rotate_left
                            · simp only [Act.put, List.setIfInBounds_toArray, List.set_cons_zero, List.set_cons_succ, i64_w, i32_w]
                              rfl
                            refine take_ (i := 1) (N := some 95) (v := ?_) (a' := ?_) #[true, true, true, true, false, true, true, true, true, false, false, false, false, false, false] rfl rfl (take_ofW HT_.out HW_.out (by kernel_rfl)) (fun _ _ _ h => h) (Or.inl ⟨by rfl, ?_⟩) hHeld ?_ ?_
                            rotate_left
                            · rintro w' ⟨s0, s1, s2, s3, s4, s5, s6, s7, s8, s9, s10⟩
                              go_simp
                              with_reducible rfl
                            rotate_left
                            · simp only [Act.put, List.setIfInBounds_toArray, List.set_cons_zero, List.set_cons_succ, i64_w, i32_w]
                              rfl
                            refine take_ (i := 4) (N := some 98) (v := ?_) (a' := ?_) #[true, true, true, true, true, true, true, true, true, false, false, false, false, false, false] rfl rfl (take_ofW HT_.out HW_.out (by kernel_rfl)) (fun _ _ _ h => h) (Or.inl ⟨by rfl, ?_⟩) hHeld ?_ ?_
                            rotate_left
                            · rintro w' ⟨s0, s1, s2, s3, s4, s5, s6, s7, s8, s9, s10⟩
                              go_simp
                              with_reducible rfl
                            rotate_left
                            · simp only [Act.put, List.setIfInBounds_toArray, List.set_cons_zero, List.set_cons_succ, i64_w, i32_w]
                              rfl
                            refine pure_ (i := 9) (N := some 103) (v := ?_) (a' := ?_) #[true, true, true, true, true, true, true, true, true, true, false, false, false, false, false] rfl rfl (any_of HT_.out (by kernel_rfl)) (fun _ _ _ h => h) (Or.inl ⟨by rfl, ?_⟩) ?_ ?_
                            rotate_left
                            · intro w'
                              go_simp
                              with_reducible rfl
                            rotate_left
                            · simp only [Act.put, List.setIfInBounds_toArray, List.set_cons_zero, List.set_cons_succ, i64_w, i32_w]
                              rfl
                            refine pure_ (i := 10) (N := some 104) (v := ?_) (a' := ?_) #[true, true, true, true, true, true, true, true, true, true, true, false, false, false, false] rfl rfl (any_of HT_.out (by kernel_rfl)) (fun _ _ _ h => h) (Or.inl ⟨by rfl, ?_⟩) ?_ ?_
                            rotate_left
                            · intro w'
                              go_simp
                              with_reducible rfl
                            rotate_left
                            · simp only [Act.put, List.setIfInBounds_toArray, List.set_cons_zero, List.set_cons_succ, i64_w, i32_w]
                              rfl
                            refine one_ (i := 11) (N := some 105) #[true, true, true, true, true, true, true, true, true, true, true, true, false, false, false] rfl rfl (one_of HT_.out (by kernel_rfl)) (by decide) (fun K hK => ?_)
                            refine value_ (w1 := ?_) (v := ?_) (by rfl) rfl ?_ ?_
                            rotate_left 2
                            · go_simp
                              constructor
                              · rfl
                              · rfl
                            refine hK.out _ _ ⟨(blk_cell (blk_alloc BK105.out _) 0).trans rfl, (blk_cell (blk_alloc BK105.out _) 1).trans rfl, (blk_cell (blk_alloc BK105.out _) 2).trans rfl, (blk_cell (blk_alloc BK105.out _) 3).trans rfl, (blk_cell (blk_alloc BK105.out _) 4).trans rfl, (blk_cell (blk_alloc BK105.out _) 5).trans rfl, (blk_cell (blk_alloc BK101.out _) 0).trans rfl, (blk_cell (blk_alloc BK101.out _) 1).trans rfl, (blk_cell (blk_alloc BK101.out _) 2).trans rfl, (blk_cell (blk_alloc BK101.out _) 3).trans rfl, (blk_cell (blk_alloc BK101.out _) 4).trans rfl⟩ (fun hHeld => ?_)
                            clear hK K
                            refine norm_ (a' := ?_) ?_ ?_
                            rotate_left
                            · show Act.put _ (some 105) _ = _
                              simp only [Act.put, List.setIfInBounds_toArray, List.set_cons_zero, List.set_cons_succ, i64_w, i32_w]
                              rfl
                            refine one_ (i := 12) (N := some 106) #[true, true, true, true, true, true, true, true, true, true, true, true, true, false, false] rfl rfl (one_of HT_.out (by kernel_rfl)) (by decide) (fun K hK => ?_)
                            refine Kd.R_append_step k55 (w0 := w) w.heap.size (by rfl) (.tmp 95) (.tmp 105) 47 55 (.agg #[(.int .i64 0), (.string ⟨#[]⟩)]) 24 rfl Try.underlying47 info55 rfl (by decide) (by omega) u106005 x106005_2 (⟨t106, a0_4.extract (t110 : Int).toNat ((wrap64 (t110 + t109)) : Int).toNat⟩ : S55) [.int .i64 t106, .string (a0_4.extract (t110 : Int).toNat ((wrap64 (t110 + t109)) : Int).toNat)] (fun _ => True) (fun _ => False) rfl rfl ?aP (fun _ hk => hk.elim) ?aF ?aO ?aB ?aS ?aL ?_
                            (case aP => exact k55_mkM _ _ _ (⟨t106, a0_4.extract (t110 : Int).toNat ((wrap64 (t110 + t109)) : Int).toNat⟩ : S55))
                            (case aB => exact (by repeat (first | (with_reducible first | exact HB.out | apply below_alloc | apply pw_below_drewN | apply below_drew1 | refine below_set ?_ GE101.out | refine below_set ?_ GE102.out | refine below_set ?_ GE105.out) | exact HB.out)))
                            (case aF => exact (fun _ _ => trivial))
                            (case aO => exact (by (with_reducible repeat (first | apply Kd.R_alloc | apply Kd.R_drewN | apply Kd.R_drew)); exact HO_106005.out))
                            (case aS => exact (below_size (by repeat (first | (with_reducible first | exact HB.out | apply below_alloc | apply pw_below_drewN | apply below_drew1 | refine below_set ?_ GE101.out | refine below_set ?_ GE102.out | refine below_set ?_ GE105.out) | exact HB.out))))
                            (case aL => have := LMc48.out; omega)
                            intro v113 w59 ho hb hg hat
                            rw [← Ny112.out] at ho
                            have n0_ := Aside0.mk (blk_grown (g := gb101) (o := .cells #[.string a0_0, .int .i64 a0_1, .int .i64 a0_2, .int .i64 a0_3, .string a0_4] 53 (0, 0)) (by (with_reducible repeat (first | refine blk_drewN ?_ _ | refine blk_drew ?_ | refine blk_alloc ?_ _)); exact BK101.out) hg (Kd.R_ne HO_106005.out BK101.out (by decide)))
                            have n1_ := Aside0.mk (blk_grown (g := gb102) (o := .cells #[.int .i64 x103000_2, .int .i64 x103001_2, .int .i64 x103002_2, .bool x103003_2, .int .i64 x103004_2, .slice none 0 0] 49 (0, 0)) (by (with_reducible repeat (first | refine blk_drewN ?_ _ | refine blk_drew ?_ | refine blk_alloc ?_ _)); exact BK102.out) hg (Kd.R_ne HO_106005.out BK102.out (by decide)))
                            have n2_ := Aside0.mk (blk_grown (g := gb105) (o := .cells #[.int .i64 a0_2, .int .i64 (a0_3 / 16777216), .int .i64 (Go.bits .and .i64 (a0_3 / 65536) 255), .bool ((Go.bits .and .i64 (a0_3 / 32768) 1) == 1), .int .i64 (Go.bits .and .i64 a0_3 32767), u106005] 49 (0, 0)) (by (with_reducible repeat (first | refine blk_drewN ?_ _ | refine blk_drew ?_ | refine blk_alloc ?_ _)); exact BK105.out) hg (Kd.R_ne HO_106005.out BK105.out (by decide)))
                            have n3_ := Aside0.mk (hb)
                            have n4_ := Aside0.mk (ho)
                            clear BK101
                            clear BK102
                            clear BK105
                            clear HB
                            clear HO_106005
                            have BK101 := n0_
                            have BK102 := n1_
                            have BK105 := n2_
                            have HB := n3_
                            have HO114 := n4_
                            clear n0_ n1_ n2_ n3_ n4_
                            clear ho hb hg hat
                            obtain ⟨Ao60, co60, eo60⟩ := Kd.R_slice HO114.out
                            (first | subst eo60 | (injection eo60 with f1_ f2_ f3_; have f4_ := f1_.symm; have f5_ := f3_.symm; clear f1_ f2_ f3_; subst f4_; subst f5_))
                            refine hK.out _ _ ⟨(blk_cell BK105.out 0).trans rfl, (blk_cell BK105.out 1).trans rfl, (blk_cell BK105.out 2).trans rfl, (blk_cell BK105.out 3).trans rfl, (blk_cell BK105.out 4).trans rfl, (blk_cell BK105.out 5).trans rfl, (blk_cell BK101.out 0).trans rfl, (blk_cell BK101.out 1).trans rfl, (blk_cell BK101.out 2).trans rfl, (blk_cell BK101.out 3).trans rfl, (blk_cell BK101.out 4).trans rfl⟩ (fun hHeld => ?_)
                            clear hK K
                            refine norm_ (a' := ?_) ?_ ?_
                            rotate_left
                            · show Act.put _ (some 106) _ = _
                              simp only [Act.put, List.setIfInBounds_toArray, List.set_cons_zero, List.set_cons_succ, i64_w, i32_w]
                              rfl
                            refine pure_ (i := 13) (N := some 107) (v := ?_) (a' := ?_) #[true, true, true, true, true, true, true, true, true, true, true, true, true, true, false] rfl rfl (any_of HT_.out (by kernel_rfl)) (fun _ _ _ h => h) (Or.inl ⟨by rfl, ?_⟩) ?_ ?_
                            rotate_left
                            · intro w'
                              go_simp
                              with_reducible rfl
                            rotate_left
                            · simp only [Act.put, List.setIfInBounds_toArray, List.set_cons_zero, List.set_cons_succ, i64_w, i32_w]
                              rfl
                            refine last_ (i := 14) (N := none) #[true, true, true, true, true, true, true, true, true, true, true, true, true, true, true] rfl rfl (one_of HT_.out (by kernel_rfl)) (by decide) (fun K hK => ?_)
                            have hs61 : w59.cell? ⟨gb105, 5, none⟩ = some (u106005) := (blk_cell BK105.out 5).trans rfl
                            have hfs61 := blk_frozen BK105.out 5
                            have hns61_0 := NB101_105.out
                            have hns61_1 := NB102_105.out
                            have hms61_0 := NB105_101.out
                            have hms61_1 := NB105_102.out
                            refine skip_ (w1 := ?_) (by rfl) rfl ?_ ?_
                            rotate_left
                            · go_simp
                              rfl
                            refine hK.out _ _ ?_
                            clear hK K
                            refine done_ (done_of HT_.out (by kernel_rfl)) ?_
                            try go_wp2
                            go_roundg k2
                            case measure => have := HJ1.out; have := HK2.out; omega
                            case rel => exact ⟨(wrap64 (t110 + t109)), (x103000_2), (x103001_2), (x103002_2), (x103003_2), (x103004_2), (y112), (.slice Ao60 y112.length co60), (by first | rfl | (simp; done) | (simp [*]; done)), H', ⟨by have := HJ1.out; have := HK2.out; omega⟩, ⟨by (with_reducible repeat (first | apply Kd.R_alloc | apply Kd.R_drewN | apply Kd.R_drew)); exact Kd.R_mono (Kd.R_far (p := ⟨gb105, 5, none⟩) (Kd.R_types HO114.out BK105.out (by decide)) (fun _ hk => hk.2) (.slice Ao60 y112.length co60)) (fun _ hk => trivial)⟩, ⟨by (with_reducible repeat (first | refine blk_drewN ?_ _ | refine blk_drew ?_ | refine blk_alloc ?_ _)); refine blk_far ?_ NB101_105.out _; (with_reducible repeat (first | refine blk_drewN ?_ _ | refine blk_drew ?_ | refine blk_alloc ?_ _)); exact BK101.out⟩, ⟨by (with_reducible repeat (first | refine blk_drewN ?_ _ | refine blk_drew ?_ | refine blk_alloc ?_ _)); refine blk_far ?_ NB102_105.out _; (with_reducible repeat (first | refine blk_drewN ?_ _ | refine blk_drew ?_ | refine blk_alloc ?_ _)); exact BK102.out⟩, ⟨by (with_reducible repeat (first | refine blk_drewN ?_ _ | refine blk_drew ?_ | refine blk_alloc ?_ _)); refine blk_put (cs := #[.int .i64 a0_2, .int .i64 (a0_3 / 16777216), .int .i64 (Go.bits .and .i64 (a0_3 / 65536) 255), .bool ((Go.bits .and .i64 (a0_3 / 32768) 1) == 1), .int .i64 (Go.bits .and .i64 a0_3 32767), u106005]) ?_ 5 _ rfl; (with_reducible repeat (first | refine blk_drewN ?_ _ | refine blk_drew ?_ | refine blk_alloc ?_ _)); exact BK105.out⟩, ⟨by repeat (first | (with_reducible first | exact HB.out | apply below_alloc | apply pw_below_drewN | apply below_drew1 | refine below_set ?_ GE101.out | refine below_set ?_ GE102.out | refine below_set ?_ GE105.out) | exact HB.out)⟩⟩
                          · rw [if_neg c48] at H
                            exact absurd H (by simp)
                        · rw [if_neg c47] at H
                          exact absurd H (by simp)
                      · rw [if_neg c46] at H
                        exact absurd H (by simp)
                    · rw [if_neg c45] at H
                      exact absurd H (by simp)
                · rw [if_neg c34] at H
                  have c34b0 : (t111 == 0) = false := beq_eq_false_iff_ne.mpr c34
                  have c34b1 : (t111 != 0) = true := bne_iff_ne.mpr c34
                  simp only [Option.some.injEq, Prod.mk.injEq] at H
                  obtain ⟨rfl, rfl, rfl, rfl, rfl, rfl, rfl⟩ := H
                  have hnb62 := NB101_102.out
                  have hnc62 := NB102_101.out
                  have hnb63 := NB101_105.out
                  have hnc63 := NB105_101.out
                  have hcz64_0 : wr.cell? ⟨gb101, 0, none⟩ = some (.string a0_0) := (blk_cell BK101.out 0).trans rfl
                  have hcz64_1 : wr.cell? ⟨gb101, 1, none⟩ = some (.int .i64 a0_1) := (blk_cell BK101.out 1).trans rfl
                  have hcz64_2 : wr.cell? ⟨gb101, 2, none⟩ = some (.int .i64 a0_2) := (blk_cell BK101.out 2).trans rfl
                  have hcz64_3 : wr.cell? ⟨gb101, 3, none⟩ = some (.int .i64 a0_3) := (blk_cell BK101.out 3).trans rfl
                  have hcz64_4 : wr.cell? ⟨gb101, 4, none⟩ = some (.string a0_4) := (blk_cell BK101.out 4).trans rfl
                  have hfz64_0 := blk_frozen BK101.out 0
                  have hfz64_1 := blk_frozen BK101.out 1
                  have hfz64_2 := blk_frozen BK101.out 2
                  have hfz64_3 := blk_frozen BK101.out 3
                  have hfz64_4 := blk_frozen BK101.out 4
                  go_wp2_with (first | ((with_reducible refine gate_dst (N := 66) rfl ?_); (try (refine gate_guard (by rfl) ?_; dsimp only)); (with_reducible refine gate_callee (f := 54) rfl ?_); refine goesL_ (some 66) rfl rfl Try.func54 (by kernel_rfl) rfl #[.string a0_4, .int .i64 x5_2, .int .i64 2] rfl (by (try simp only [List.map_toArray, List.map_cons, List.map_nil]); first | done | rfl | (simp only [List.length_drop, List.length_take]; rfl)) ?_; (with_reducible refine (wimpleref1_Num.calls k2 a0_4 x5_2 2 t106 t107 t108 _ A31.out).mono ?_); rintro e w' ⟨rfl, ⟨nd, rfl⟩⟩; refine ⟨_, rfl, ?_⟩; (try (rw [drewN_self wr]; generalize hq_ : World.drewN wr _ = wr; have n0_ : Aside0 (Kd.R k55 55 wr w.heap.size (fun _ => True) u106005 x106005_2) := ⟨by rw [← hq_]; exact (by (with_reducible repeat (first | apply Kd.R_alloc | apply Kd.R_drewN | apply Kd.R_drew)); exact HO_106005.out)⟩; have n1_ : Aside0 (wr.heap[gb101]? = some (.cells #[.string a0_0, .int .i64 a0_1, .int .i64 a0_2, .int .i64 a0_3, .string a0_4] 53 (0, 0))) := ⟨by rw [← hq_]; exact (by (with_reducible repeat (first | refine blk_drewN ?_ _ | refine blk_drew ?_ | refine blk_alloc ?_ _)); exact BK101.out)⟩; have n2_ : Aside0 (wr.heap[gb102]? = some (.cells #[.int .i64 x103000_2, .int .i64 x103001_2, .int .i64 x103002_2, .bool x103003_2, .int .i64 x103004_2, .slice none 0 0] 49 (0, 0))) := ⟨by rw [← hq_]; exact (by (with_reducible repeat (first | refine blk_drewN ?_ _ | refine blk_drew ?_ | refine blk_alloc ?_ _)); exact BK102.out)⟩; have n3_ : Aside0 (wr.heap[gb105]? = some (.cells #[.int .i64 a0_2, .int .i64 (a0_3 / 16777216), .int .i64 (Go.bits .and .i64 (a0_3 / 65536) 255), .bool ((Go.bits .and .i64 (a0_3 / 32768) 1) == 1), .int .i64 (Go.bits .and .i64 a0_3 32767), u106005] 49 (0, 0))) := ⟨by rw [← hq_]; exact (by (with_reducible repeat (first | refine blk_drewN ?_ _ | refine blk_drew ?_ | refine blk_alloc ?_ _)); exact BK105.out)⟩; have n4_ : Aside0 (Below w.heap.size w wr) := ⟨by rw [← hq_]; exact (by repeat (first | (with_reducible first | exact HB.out | apply below_alloc | apply pw_below_drewN | apply below_drew1 | refine below_set ?_ GE101.out | refine below_set ?_ GE102.out | refine below_set ?_ GE105.out) | exact HB.out))⟩; clear HO_106005 BK101 BK102 BK105 HB hq_; have HO_106005 := n0_; have BK101 := n1_; have BK102 := n2_; have BK105 := n3_; have HB := n4_; clear n0_ n1_ n2_ n3_ n4_)); have hcz65_0 : wr.cell? ⟨gb101, 0, none⟩ = some (.string a0_0) := (blk_cell BK101.out 0).trans rfl; have hcz65_1 : wr.cell? ⟨gb101, 1, none⟩ = some (.int .i64 a0_1) := (blk_cell BK101.out 1).trans rfl; have hcz65_2 : wr.cell? ⟨gb101, 2, none⟩ = some (.int .i64 a0_2) := (blk_cell BK101.out 2).trans rfl; have hcz65_3 : wr.cell? ⟨gb101, 3, none⟩ = some (.int .i64 a0_3) := (blk_cell BK101.out 3).trans rfl; have hcz65_4 : wr.cell? ⟨gb101, 4, none⟩ = some (.string a0_4) := (blk_cell BK101.out 4).trans rfl; have hfz65_0 := blk_frozen BK101.out 0; have hfz65_1 := blk_frozen BK101.out 1; have hfz65_2 := blk_frozen BK101.out 2; have hfz65_3 := blk_frozen BK101.out 3; have hfz65_4 := blk_frozen BK101.out 4; have hcz66_0 : wr.cell? ⟨gb102, 0, none⟩ = some (.int .i64 x103000_2) := (blk_cell BK102.out 0).trans rfl; have hcz66_1 : wr.cell? ⟨gb102, 1, none⟩ = some (.int .i64 x103001_2) := (blk_cell BK102.out 1).trans rfl; have hcz66_2 : wr.cell? ⟨gb102, 2, none⟩ = some (.int .i64 x103002_2) := (blk_cell BK102.out 2).trans rfl; have hcz66_3 : wr.cell? ⟨gb102, 3, none⟩ = some (.bool x103003_2) := (blk_cell BK102.out 3).trans rfl; have hcz66_4 : wr.cell? ⟨gb102, 4, none⟩ = some (.int .i64 x103004_2) := (blk_cell BK102.out 4).trans rfl; have hcz66_5 : wr.cell? ⟨gb102, 5, none⟩ = some (.slice none 0 0) := (blk_cell BK102.out 5).trans rfl; have hfz66_0 := blk_frozen BK102.out 0; have hfz66_1 := blk_frozen BK102.out 1; have hfz66_2 := blk_frozen BK102.out 2; have hfz66_3 := blk_frozen BK102.out 3; have hfz66_4 := blk_frozen BK102.out 4; have hfz66_5 := blk_frozen BK102.out 5; have hcz67_0 : wr.cell? ⟨gb105, 0, none⟩ = some (.int .i64 a0_2) := (blk_cell BK105.out 0).trans rfl; have hcz67_1 : wr.cell? ⟨gb105, 1, none⟩ = some (.int .i64 (a0_3 / 16777216)) := (blk_cell BK105.out 1).trans rfl; have hcz67_2 : wr.cell? ⟨gb105, 2, none⟩ = some (.int .i64 (Go.bits .and .i64 (a0_3 / 65536) 255)) := (blk_cell BK105.out 2).trans rfl; have hcz67_3 : wr.cell? ⟨gb105, 3, none⟩ = some (.bool ((Go.bits .and .i64 (a0_3 / 32768) 1) == 1)) := (blk_cell BK105.out 3).trans rfl; have hcz67_4 : wr.cell? ⟨gb105, 4, none⟩ = some (.int .i64 (Go.bits .and .i64 a0_3 32767)) := (blk_cell BK105.out 4).trans rfl; have hcz67_5 : wr.cell? ⟨gb105, 5, none⟩ = some (u106005) := (blk_cell BK105.out 5).trans rfl; have hfz67_0 := blk_frozen BK105.out 0; have hfz67_1 := blk_frozen BK105.out 1; have hfz67_2 := blk_frozen BK105.out 2; have hfz67_3 := blk_frozen BK105.out 3; have hfz67_4 := blk_frozen BK105.out 4; have hfz67_5 := blk_frozen BK105.out 5) | ((with_reducible refine gate_dst (N := 74) rfl ?_); (try (refine gate_guard (by rfl) ?_; dsimp only)); (with_reducible refine gate_callee (f := 54) rfl ?_); refine goesL_ (some 74) rfl rfl Try.func54 (by kernel_rfl) rfl #[.string a0_4, .int .i64 t107, .int .i64 2] rfl (by (try simp only [List.map_toArray, List.map_cons, List.map_nil]); first | done | rfl | (simp only [List.length_drop, List.length_take]; rfl)) ?_; (with_reducible refine (wimpleref1_Num.calls k2 a0_4 t107 2 t109 t110 t111 _ A32.out).mono ?_); rintro e w' ⟨rfl, ⟨nd, rfl⟩⟩; refine ⟨_, rfl, ?_⟩; (try (rw [drewN_self wr]; generalize hq_ : World.drewN wr _ = wr; have n0_ : Aside0 (Kd.R k55 55 wr w.heap.size (fun _ => True) u106005 x106005_2) := ⟨by rw [← hq_]; exact (by (with_reducible repeat (first | apply Kd.R_alloc | apply Kd.R_drewN | apply Kd.R_drew)); exact HO_106005.out)⟩; have n1_ : Aside0 (wr.heap[gb101]? = some (.cells #[.string a0_0, .int .i64 a0_1, .int .i64 a0_2, .int .i64 a0_3, .string a0_4] 53 (0, 0))) := ⟨by rw [← hq_]; exact (by (with_reducible repeat (first | refine blk_drewN ?_ _ | refine blk_drew ?_ | refine blk_alloc ?_ _)); exact BK101.out)⟩; have n2_ : Aside0 (wr.heap[gb102]? = some (.cells #[.int .i64 x103000_2, .int .i64 x103001_2, .int .i64 x103002_2, .bool x103003_2, .int .i64 x103004_2, .slice none 0 0] 49 (0, 0))) := ⟨by rw [← hq_]; exact (by (with_reducible repeat (first | refine blk_drewN ?_ _ | refine blk_drew ?_ | refine blk_alloc ?_ _)); exact BK102.out)⟩; have n3_ : Aside0 (wr.heap[gb105]? = some (.cells #[.int .i64 a0_2, .int .i64 (a0_3 / 16777216), .int .i64 (Go.bits .and .i64 (a0_3 / 65536) 255), .bool ((Go.bits .and .i64 (a0_3 / 32768) 1) == 1), .int .i64 (Go.bits .and .i64 a0_3 32767), u106005] 49 (0, 0))) := ⟨by rw [← hq_]; exact (by (with_reducible repeat (first | refine blk_drewN ?_ _ | refine blk_drew ?_ | refine blk_alloc ?_ _)); exact BK105.out)⟩; have n4_ : Aside0 (Below w.heap.size w wr) := ⟨by rw [← hq_]; exact (by repeat (first | (with_reducible first | exact HB.out | apply below_alloc | apply pw_below_drewN | apply below_drew1 | refine below_set ?_ GE101.out | refine below_set ?_ GE102.out | refine below_set ?_ GE105.out) | exact HB.out))⟩; clear HO_106005 BK101 BK102 BK105 HB hq_; have HO_106005 := n0_; have BK101 := n1_; have BK102 := n2_; have BK105 := n3_; have HB := n4_; clear n0_ n1_ n2_ n3_ n4_)); have hcz68_0 : wr.cell? ⟨gb101, 0, none⟩ = some (.string a0_0) := (blk_cell BK101.out 0).trans rfl; have hcz68_1 : wr.cell? ⟨gb101, 1, none⟩ = some (.int .i64 a0_1) := (blk_cell BK101.out 1).trans rfl; have hcz68_2 : wr.cell? ⟨gb101, 2, none⟩ = some (.int .i64 a0_2) := (blk_cell BK101.out 2).trans rfl; have hcz68_3 : wr.cell? ⟨gb101, 3, none⟩ = some (.int .i64 a0_3) := (blk_cell BK101.out 3).trans rfl; have hcz68_4 : wr.cell? ⟨gb101, 4, none⟩ = some (.string a0_4) := (blk_cell BK101.out 4).trans rfl; have hfz68_0 := blk_frozen BK101.out 0; have hfz68_1 := blk_frozen BK101.out 1; have hfz68_2 := blk_frozen BK101.out 2; have hfz68_3 := blk_frozen BK101.out 3; have hfz68_4 := blk_frozen BK101.out 4; have hcz69_0 : wr.cell? ⟨gb102, 0, none⟩ = some (.int .i64 x103000_2) := (blk_cell BK102.out 0).trans rfl; have hcz69_1 : wr.cell? ⟨gb102, 1, none⟩ = some (.int .i64 x103001_2) := (blk_cell BK102.out 1).trans rfl; have hcz69_2 : wr.cell? ⟨gb102, 2, none⟩ = some (.int .i64 x103002_2) := (blk_cell BK102.out 2).trans rfl; have hcz69_3 : wr.cell? ⟨gb102, 3, none⟩ = some (.bool x103003_2) := (blk_cell BK102.out 3).trans rfl; have hcz69_4 : wr.cell? ⟨gb102, 4, none⟩ = some (.int .i64 x103004_2) := (blk_cell BK102.out 4).trans rfl; have hcz69_5 : wr.cell? ⟨gb102, 5, none⟩ = some (.slice none 0 0) := (blk_cell BK102.out 5).trans rfl; have hfz69_0 := blk_frozen BK102.out 0; have hfz69_1 := blk_frozen BK102.out 1; have hfz69_2 := blk_frozen BK102.out 2; have hfz69_3 := blk_frozen BK102.out 3; have hfz69_4 := blk_frozen BK102.out 4; have hfz69_5 := blk_frozen BK102.out 5; have hcz70_0 : wr.cell? ⟨gb105, 0, none⟩ = some (.int .i64 a0_2) := (blk_cell BK105.out 0).trans rfl; have hcz70_1 : wr.cell? ⟨gb105, 1, none⟩ = some (.int .i64 (a0_3 / 16777216)) := (blk_cell BK105.out 1).trans rfl; have hcz70_2 : wr.cell? ⟨gb105, 2, none⟩ = some (.int .i64 (Go.bits .and .i64 (a0_3 / 65536) 255)) := (blk_cell BK105.out 2).trans rfl; have hcz70_3 : wr.cell? ⟨gb105, 3, none⟩ = some (.bool ((Go.bits .and .i64 (a0_3 / 32768) 1) == 1)) := (blk_cell BK105.out 3).trans rfl; have hcz70_4 : wr.cell? ⟨gb105, 4, none⟩ = some (.int .i64 (Go.bits .and .i64 a0_3 32767)) := (blk_cell BK105.out 4).trans rfl; have hcz70_5 : wr.cell? ⟨gb105, 5, none⟩ = some (u106005) := (blk_cell BK105.out 5).trans rfl; have hfz70_0 := blk_frozen BK105.out 0; have hfz70_1 := blk_frozen BK105.out 1; have hfz70_2 := blk_frozen BK105.out 2; have hfz70_3 := blk_frozen BK105.out 3; have hfz70_4 := blk_frozen BK105.out 4; have hfz70_5 := blk_frozen BK105.out 5))
                  refine bodyPost_ret (results_ct rfl _ _ gb102 49 #[.int .i64 0, .int .i64 0, .int .i64 0, .bool false, .int .i64 0, .slice none 0 0] (0, 0) _ rfl (by (with_reducible repeat (first | refine blk_drewN ?_ _ | refine blk_drew ?_ | refine blk_alloc ?_ _)); refine blk_put (cs := #[.int .i64 0, .int .i64 0, .int .i64 0, .bool false, .int .i64 0, .slice none 0 0]) ?_ 5 _ rfl; (with_reducible repeat (first | refine blk_drewN ?_ _ | refine blk_drew ?_ | refine blk_alloc ?_ _)); refine blk_put (cs := #[.int .i64 0, .int .i64 0, .int .i64 0, .bool false, .int .i64 x103004_2, .slice none 0 0]) ?_ 4 _ rfl; (with_reducible repeat (first | refine blk_drewN ?_ _ | refine blk_drew ?_ | refine blk_alloc ?_ _)); refine blk_put (cs := #[.int .i64 0, .int .i64 0, .int .i64 0, .bool x103003_2, .int .i64 x103004_2, .slice none 0 0]) ?_ 3 _ rfl; (with_reducible repeat (first | refine blk_drewN ?_ _ | refine blk_drew ?_ | refine blk_alloc ?_ _)); refine blk_put (cs := #[.int .i64 0, .int .i64 0, .int .i64 x103002_2, .bool x103003_2, .int .i64 x103004_2, .slice none 0 0]) ?_ 2 _ rfl; (with_reducible repeat (first | refine blk_drewN ?_ _ | refine blk_drew ?_ | refine blk_alloc ?_ _)); refine blk_put (cs := #[.int .i64 0, .int .i64 x103001_2, .int .i64 x103002_2, .bool x103003_2, .int .i64 x103004_2, .slice none 0 0]) ?_ 1 _ rfl; (with_reducible repeat (first | refine blk_drewN ?_ _ | refine blk_drew ?_ | refine blk_alloc ?_ _)); refine blk_put (cs := #[.int .i64 x103000_2, .int .i64 x103001_2, .int .i64 x103002_2, .bool x103003_2, .int .i64 x103004_2, .slice none 0 0]) ?_ 0 _ rfl; (with_reducible repeat (first | refine blk_drewN ?_ _ | refine blk_drew ?_ | refine blk_alloc ?_ _)); exact BK102.out) Try.underlying49 rfl (by kernel_rfl)) rfl ?_
                  exact ⟨_, by first | rfl | (simp [errW_none, errW_some] <;> rfl) | (simp [*, errW_none, errW_some] <;> rfl), by first | exact Kd.R_nil _ _ _ _ _ | exact Kd.N_nil _ _ _ _ _ | exact Kd.V_nil _ _ _ _ _ | exact Kd.Q_nil _ _ _ _ _ | exact Kd.S_nil _ _ _ _ _, by repeat (first | (with_reducible first | exact HB.out | apply below_alloc | apply pw_below_drewN | apply below_drew1 | refine below_set ?_ GE101.out | refine below_set ?_ GE102.out | refine below_set ?_ GE105.out) | exact HB.out)⟩
              · rw [if_neg c33] at H
                have c33b0 : (t108 == 0) = false := beq_eq_false_iff_ne.mpr c33
                have c33b1 : (t108 != 0) = true := bne_iff_ne.mpr c33
                simp only [Option.some.injEq, Prod.mk.injEq] at H
                obtain ⟨rfl, rfl, rfl, rfl, rfl, rfl, rfl⟩ := H
                have hnb71 := NB101_102.out
                have hnc71 := NB102_101.out
                have hnb72 := NB101_105.out
                have hnc72 := NB105_101.out
                have hcz73_0 : wr.cell? ⟨gb101, 0, none⟩ = some (.string a0_0) := (blk_cell BK101.out 0).trans rfl
                have hcz73_1 : wr.cell? ⟨gb101, 1, none⟩ = some (.int .i64 a0_1) := (blk_cell BK101.out 1).trans rfl
                have hcz73_2 : wr.cell? ⟨gb101, 2, none⟩ = some (.int .i64 a0_2) := (blk_cell BK101.out 2).trans rfl
                have hcz73_3 : wr.cell? ⟨gb101, 3, none⟩ = some (.int .i64 a0_3) := (blk_cell BK101.out 3).trans rfl
                have hcz73_4 : wr.cell? ⟨gb101, 4, none⟩ = some (.string a0_4) := (blk_cell BK101.out 4).trans rfl
                have hfz73_0 := blk_frozen BK101.out 0
                have hfz73_1 := blk_frozen BK101.out 1
                have hfz73_2 := blk_frozen BK101.out 2
                have hfz73_3 := blk_frozen BK101.out 3
                have hfz73_4 := blk_frozen BK101.out 4
                go_wp2_with (first | ((with_reducible refine gate_dst (N := 66) rfl ?_); (try (refine gate_guard (by rfl) ?_; dsimp only)); (with_reducible refine gate_callee (f := 54) rfl ?_); refine goesL_ (some 66) rfl rfl Try.func54 (by kernel_rfl) rfl #[.string a0_4, .int .i64 x5_2, .int .i64 2] rfl (by (try simp only [List.map_toArray, List.map_cons, List.map_nil]); first | done | rfl | (simp only [List.length_drop, List.length_take]; rfl)) ?_; (with_reducible refine (wimpleref1_Num.calls k2 a0_4 x5_2 2 t106 t107 t108 _ A31.out).mono ?_); rintro e w' ⟨rfl, ⟨nd, rfl⟩⟩; refine ⟨_, rfl, ?_⟩; (try (rw [drewN_self wr]; generalize hq_ : World.drewN wr _ = wr; have n0_ : Aside0 (Kd.R k55 55 wr w.heap.size (fun _ => True) u106005 x106005_2) := ⟨by rw [← hq_]; exact (by (with_reducible repeat (first | apply Kd.R_alloc | apply Kd.R_drewN | apply Kd.R_drew)); exact HO_106005.out)⟩; have n1_ : Aside0 (wr.heap[gb101]? = some (.cells #[.string a0_0, .int .i64 a0_1, .int .i64 a0_2, .int .i64 a0_3, .string a0_4] 53 (0, 0))) := ⟨by rw [← hq_]; exact (by (with_reducible repeat (first | refine blk_drewN ?_ _ | refine blk_drew ?_ | refine blk_alloc ?_ _)); exact BK101.out)⟩; have n2_ : Aside0 (wr.heap[gb102]? = some (.cells #[.int .i64 x103000_2, .int .i64 x103001_2, .int .i64 x103002_2, .bool x103003_2, .int .i64 x103004_2, .slice none 0 0] 49 (0, 0))) := ⟨by rw [← hq_]; exact (by (with_reducible repeat (first | refine blk_drewN ?_ _ | refine blk_drew ?_ | refine blk_alloc ?_ _)); exact BK102.out)⟩; have n3_ : Aside0 (wr.heap[gb105]? = some (.cells #[.int .i64 a0_2, .int .i64 (a0_3 / 16777216), .int .i64 (Go.bits .and .i64 (a0_3 / 65536) 255), .bool ((Go.bits .and .i64 (a0_3 / 32768) 1) == 1), .int .i64 (Go.bits .and .i64 a0_3 32767), u106005] 49 (0, 0))) := ⟨by rw [← hq_]; exact (by (with_reducible repeat (first | refine blk_drewN ?_ _ | refine blk_drew ?_ | refine blk_alloc ?_ _)); exact BK105.out)⟩; have n4_ : Aside0 (Below w.heap.size w wr) := ⟨by rw [← hq_]; exact (by repeat (first | (with_reducible first | exact HB.out | apply below_alloc | apply pw_below_drewN | apply below_drew1 | refine below_set ?_ GE101.out | refine below_set ?_ GE102.out | refine below_set ?_ GE105.out) | exact HB.out))⟩; clear HO_106005 BK101 BK102 BK105 HB hq_; have HO_106005 := n0_; have BK101 := n1_; have BK102 := n2_; have BK105 := n3_; have HB := n4_; clear n0_ n1_ n2_ n3_ n4_)); have hcz74_0 : wr.cell? ⟨gb101, 0, none⟩ = some (.string a0_0) := (blk_cell BK101.out 0).trans rfl; have hcz74_1 : wr.cell? ⟨gb101, 1, none⟩ = some (.int .i64 a0_1) := (blk_cell BK101.out 1).trans rfl; have hcz74_2 : wr.cell? ⟨gb101, 2, none⟩ = some (.int .i64 a0_2) := (blk_cell BK101.out 2).trans rfl; have hcz74_3 : wr.cell? ⟨gb101, 3, none⟩ = some (.int .i64 a0_3) := (blk_cell BK101.out 3).trans rfl; have hcz74_4 : wr.cell? ⟨gb101, 4, none⟩ = some (.string a0_4) := (blk_cell BK101.out 4).trans rfl; have hfz74_0 := blk_frozen BK101.out 0; have hfz74_1 := blk_frozen BK101.out 1; have hfz74_2 := blk_frozen BK101.out 2; have hfz74_3 := blk_frozen BK101.out 3; have hfz74_4 := blk_frozen BK101.out 4; have hcz75_0 : wr.cell? ⟨gb102, 0, none⟩ = some (.int .i64 x103000_2) := (blk_cell BK102.out 0).trans rfl; have hcz75_1 : wr.cell? ⟨gb102, 1, none⟩ = some (.int .i64 x103001_2) := (blk_cell BK102.out 1).trans rfl; have hcz75_2 : wr.cell? ⟨gb102, 2, none⟩ = some (.int .i64 x103002_2) := (blk_cell BK102.out 2).trans rfl; have hcz75_3 : wr.cell? ⟨gb102, 3, none⟩ = some (.bool x103003_2) := (blk_cell BK102.out 3).trans rfl; have hcz75_4 : wr.cell? ⟨gb102, 4, none⟩ = some (.int .i64 x103004_2) := (blk_cell BK102.out 4).trans rfl; have hcz75_5 : wr.cell? ⟨gb102, 5, none⟩ = some (.slice none 0 0) := (blk_cell BK102.out 5).trans rfl; have hfz75_0 := blk_frozen BK102.out 0; have hfz75_1 := blk_frozen BK102.out 1; have hfz75_2 := blk_frozen BK102.out 2; have hfz75_3 := blk_frozen BK102.out 3; have hfz75_4 := blk_frozen BK102.out 4; have hfz75_5 := blk_frozen BK102.out 5; have hcz76_0 : wr.cell? ⟨gb105, 0, none⟩ = some (.int .i64 a0_2) := (blk_cell BK105.out 0).trans rfl; have hcz76_1 : wr.cell? ⟨gb105, 1, none⟩ = some (.int .i64 (a0_3 / 16777216)) := (blk_cell BK105.out 1).trans rfl; have hcz76_2 : wr.cell? ⟨gb105, 2, none⟩ = some (.int .i64 (Go.bits .and .i64 (a0_3 / 65536) 255)) := (blk_cell BK105.out 2).trans rfl; have hcz76_3 : wr.cell? ⟨gb105, 3, none⟩ = some (.bool ((Go.bits .and .i64 (a0_3 / 32768) 1) == 1)) := (blk_cell BK105.out 3).trans rfl; have hcz76_4 : wr.cell? ⟨gb105, 4, none⟩ = some (.int .i64 (Go.bits .and .i64 a0_3 32767)) := (blk_cell BK105.out 4).trans rfl; have hcz76_5 : wr.cell? ⟨gb105, 5, none⟩ = some (u106005) := (blk_cell BK105.out 5).trans rfl; have hfz76_0 := blk_frozen BK105.out 0; have hfz76_1 := blk_frozen BK105.out 1; have hfz76_2 := blk_frozen BK105.out 2; have hfz76_3 := blk_frozen BK105.out 3; have hfz76_4 := blk_frozen BK105.out 4; have hfz76_5 := blk_frozen BK105.out 5) | ((with_reducible refine gate_dst (N := 74) rfl ?_); (try (refine gate_guard (by rfl) ?_; dsimp only)); (with_reducible refine gate_callee (f := 54) rfl ?_); refine goesL_ (some 74) rfl rfl Try.func54 (by kernel_rfl) rfl #[.string a0_4, .int .i64 t107, .int .i64 2] rfl (by (try simp only [List.map_toArray, List.map_cons, List.map_nil]); first | done | rfl | (simp only [List.length_drop, List.length_take]; rfl)) ?_; (with_reducible refine (wimpleref1_Num.calls k2 a0_4 t107 2 t109 t110 t111 _ A32.out).mono ?_); rintro e w' ⟨rfl, ⟨nd, rfl⟩⟩; refine ⟨_, rfl, ?_⟩; (try (rw [drewN_self wr]; generalize hq_ : World.drewN wr _ = wr; have n0_ : Aside0 (Kd.R k55 55 wr w.heap.size (fun _ => True) u106005 x106005_2) := ⟨by rw [← hq_]; exact (by (with_reducible repeat (first | apply Kd.R_alloc | apply Kd.R_drewN | apply Kd.R_drew)); exact HO_106005.out)⟩; have n1_ : Aside0 (wr.heap[gb101]? = some (.cells #[.string a0_0, .int .i64 a0_1, .int .i64 a0_2, .int .i64 a0_3, .string a0_4] 53 (0, 0))) := ⟨by rw [← hq_]; exact (by (with_reducible repeat (first | refine blk_drewN ?_ _ | refine blk_drew ?_ | refine blk_alloc ?_ _)); exact BK101.out)⟩; have n2_ : Aside0 (wr.heap[gb102]? = some (.cells #[.int .i64 x103000_2, .int .i64 x103001_2, .int .i64 x103002_2, .bool x103003_2, .int .i64 x103004_2, .slice none 0 0] 49 (0, 0))) := ⟨by rw [← hq_]; exact (by (with_reducible repeat (first | refine blk_drewN ?_ _ | refine blk_drew ?_ | refine blk_alloc ?_ _)); exact BK102.out)⟩; have n3_ : Aside0 (wr.heap[gb105]? = some (.cells #[.int .i64 a0_2, .int .i64 (a0_3 / 16777216), .int .i64 (Go.bits .and .i64 (a0_3 / 65536) 255), .bool ((Go.bits .and .i64 (a0_3 / 32768) 1) == 1), .int .i64 (Go.bits .and .i64 a0_3 32767), u106005] 49 (0, 0))) := ⟨by rw [← hq_]; exact (by (with_reducible repeat (first | refine blk_drewN ?_ _ | refine blk_drew ?_ | refine blk_alloc ?_ _)); exact BK105.out)⟩; have n4_ : Aside0 (Below w.heap.size w wr) := ⟨by rw [← hq_]; exact (by repeat (first | (with_reducible first | exact HB.out | apply below_alloc | apply pw_below_drewN | apply below_drew1 | refine below_set ?_ GE101.out | refine below_set ?_ GE102.out | refine below_set ?_ GE105.out) | exact HB.out))⟩; clear HO_106005 BK101 BK102 BK105 HB hq_; have HO_106005 := n0_; have BK101 := n1_; have BK102 := n2_; have BK105 := n3_; have HB := n4_; clear n0_ n1_ n2_ n3_ n4_)); have hcz77_0 : wr.cell? ⟨gb101, 0, none⟩ = some (.string a0_0) := (blk_cell BK101.out 0).trans rfl; have hcz77_1 : wr.cell? ⟨gb101, 1, none⟩ = some (.int .i64 a0_1) := (blk_cell BK101.out 1).trans rfl; have hcz77_2 : wr.cell? ⟨gb101, 2, none⟩ = some (.int .i64 a0_2) := (blk_cell BK101.out 2).trans rfl; have hcz77_3 : wr.cell? ⟨gb101, 3, none⟩ = some (.int .i64 a0_3) := (blk_cell BK101.out 3).trans rfl; have hcz77_4 : wr.cell? ⟨gb101, 4, none⟩ = some (.string a0_4) := (blk_cell BK101.out 4).trans rfl; have hfz77_0 := blk_frozen BK101.out 0; have hfz77_1 := blk_frozen BK101.out 1; have hfz77_2 := blk_frozen BK101.out 2; have hfz77_3 := blk_frozen BK101.out 3; have hfz77_4 := blk_frozen BK101.out 4; have hcz78_0 : wr.cell? ⟨gb102, 0, none⟩ = some (.int .i64 x103000_2) := (blk_cell BK102.out 0).trans rfl; have hcz78_1 : wr.cell? ⟨gb102, 1, none⟩ = some (.int .i64 x103001_2) := (blk_cell BK102.out 1).trans rfl; have hcz78_2 : wr.cell? ⟨gb102, 2, none⟩ = some (.int .i64 x103002_2) := (blk_cell BK102.out 2).trans rfl; have hcz78_3 : wr.cell? ⟨gb102, 3, none⟩ = some (.bool x103003_2) := (blk_cell BK102.out 3).trans rfl; have hcz78_4 : wr.cell? ⟨gb102, 4, none⟩ = some (.int .i64 x103004_2) := (blk_cell BK102.out 4).trans rfl; have hcz78_5 : wr.cell? ⟨gb102, 5, none⟩ = some (.slice none 0 0) := (blk_cell BK102.out 5).trans rfl; have hfz78_0 := blk_frozen BK102.out 0; have hfz78_1 := blk_frozen BK102.out 1; have hfz78_2 := blk_frozen BK102.out 2; have hfz78_3 := blk_frozen BK102.out 3; have hfz78_4 := blk_frozen BK102.out 4; have hfz78_5 := blk_frozen BK102.out 5; have hcz79_0 : wr.cell? ⟨gb105, 0, none⟩ = some (.int .i64 a0_2) := (blk_cell BK105.out 0).trans rfl; have hcz79_1 : wr.cell? ⟨gb105, 1, none⟩ = some (.int .i64 (a0_3 / 16777216)) := (blk_cell BK105.out 1).trans rfl; have hcz79_2 : wr.cell? ⟨gb105, 2, none⟩ = some (.int .i64 (Go.bits .and .i64 (a0_3 / 65536) 255)) := (blk_cell BK105.out 2).trans rfl; have hcz79_3 : wr.cell? ⟨gb105, 3, none⟩ = some (.bool ((Go.bits .and .i64 (a0_3 / 32768) 1) == 1)) := (blk_cell BK105.out 3).trans rfl; have hcz79_4 : wr.cell? ⟨gb105, 4, none⟩ = some (.int .i64 (Go.bits .and .i64 a0_3 32767)) := (blk_cell BK105.out 4).trans rfl; have hcz79_5 : wr.cell? ⟨gb105, 5, none⟩ = some (u106005) := (blk_cell BK105.out 5).trans rfl; have hfz79_0 := blk_frozen BK105.out 0; have hfz79_1 := blk_frozen BK105.out 1; have hfz79_2 := blk_frozen BK105.out 2; have hfz79_3 := blk_frozen BK105.out 3; have hfz79_4 := blk_frozen BK105.out 4; have hfz79_5 := blk_frozen BK105.out 5))
                refine bodyPost_ret (results_ct rfl _ _ gb102 49 #[.int .i64 0, .int .i64 0, .int .i64 0, .bool false, .int .i64 0, .slice none 0 0] (0, 0) _ rfl (by (with_reducible repeat (first | refine blk_drewN ?_ _ | refine blk_drew ?_ | refine blk_alloc ?_ _)); refine blk_put (cs := #[.int .i64 0, .int .i64 0, .int .i64 0, .bool false, .int .i64 0, .slice none 0 0]) ?_ 5 _ rfl; (with_reducible repeat (first | refine blk_drewN ?_ _ | refine blk_drew ?_ | refine blk_alloc ?_ _)); refine blk_put (cs := #[.int .i64 0, .int .i64 0, .int .i64 0, .bool false, .int .i64 x103004_2, .slice none 0 0]) ?_ 4 _ rfl; (with_reducible repeat (first | refine blk_drewN ?_ _ | refine blk_drew ?_ | refine blk_alloc ?_ _)); refine blk_put (cs := #[.int .i64 0, .int .i64 0, .int .i64 0, .bool x103003_2, .int .i64 x103004_2, .slice none 0 0]) ?_ 3 _ rfl; (with_reducible repeat (first | refine blk_drewN ?_ _ | refine blk_drew ?_ | refine blk_alloc ?_ _)); refine blk_put (cs := #[.int .i64 0, .int .i64 0, .int .i64 x103002_2, .bool x103003_2, .int .i64 x103004_2, .slice none 0 0]) ?_ 2 _ rfl; (with_reducible repeat (first | refine blk_drewN ?_ _ | refine blk_drew ?_ | refine blk_alloc ?_ _)); refine blk_put (cs := #[.int .i64 0, .int .i64 x103001_2, .int .i64 x103002_2, .bool x103003_2, .int .i64 x103004_2, .slice none 0 0]) ?_ 1 _ rfl; (with_reducible repeat (first | refine blk_drewN ?_ _ | refine blk_drew ?_ | refine blk_alloc ?_ _)); refine blk_put (cs := #[.int .i64 x103000_2, .int .i64 x103001_2, .int .i64 x103002_2, .bool x103003_2, .int .i64 x103004_2, .slice none 0 0]) ?_ 0 _ rfl; (with_reducible repeat (first | refine blk_drewN ?_ _ | refine blk_drew ?_ | refine blk_alloc ?_ _)); exact BK102.out) Try.underlying49 rfl (by kernel_rfl)) rfl ?_
                exact ⟨_, by first | rfl | (simp [errW_none, errW_some] <;> rfl) | (simp [*, errW_none, errW_some] <;> rfl), by first | exact Kd.R_nil _ _ _ _ _ | exact Kd.N_nil _ _ _ _ _ | exact Kd.V_nil _ _ _ _ _ | exact Kd.Q_nil _ _ _ _ _ | exact Kd.S_nil _ _ _ _ _, by repeat (first | (with_reducible first | exact HB.out | apply below_alloc | apply pw_below_drewN | apply below_drew1 | refine below_set ?_ GE101.out | refine below_set ?_ GE102.out | refine below_set ?_ GE105.out) | exact HB.out)⟩
            · rw [if_neg c30] at H
              have c30b0 : decide (x5_2 < (a0_4.size : Int)) = false := decide_eq_false c30
              clear c30
              simp only [Option.some.injEq, Prod.mk.injEq] at H
              obtain ⟨rfl, rfl, rfl, rfl, rfl, rfl, rfl⟩ := H
              have hnb80 := NB101_102.out
              have hnc80 := NB102_101.out
              have hnb81 := NB101_105.out
              have hnc81 := NB105_101.out
              have hcz82_0 : wr.cell? ⟨gb101, 0, none⟩ = some (.string a0_0) := (blk_cell BK101.out 0).trans rfl
              have hcz82_1 : wr.cell? ⟨gb101, 1, none⟩ = some (.int .i64 a0_1) := (blk_cell BK101.out 1).trans rfl
              have hcz82_2 : wr.cell? ⟨gb101, 2, none⟩ = some (.int .i64 a0_2) := (blk_cell BK101.out 2).trans rfl
              have hcz82_3 : wr.cell? ⟨gb101, 3, none⟩ = some (.int .i64 a0_3) := (blk_cell BK101.out 3).trans rfl
              have hcz82_4 : wr.cell? ⟨gb101, 4, none⟩ = some (.string a0_4) := (blk_cell BK101.out 4).trans rfl
              have hfz82_0 := blk_frozen BK101.out 0
              have hfz82_1 := blk_frozen BK101.out 1
              have hfz82_2 := blk_frozen BK101.out 2
              have hfz82_3 := blk_frozen BK101.out 3
              have hfz82_4 := blk_frozen BK101.out 4
              have hnb83 := NB105_102.out
              have hnc83 := NB102_105.out
              have hcz84_0 : wr.cell? ⟨gb105, 0, none⟩ = some (.int .i64 a0_2) := (blk_cell BK105.out 0).trans rfl
              have hcz84_1 : wr.cell? ⟨gb105, 1, none⟩ = some (.int .i64 (a0_3 / 16777216)) := (blk_cell BK105.out 1).trans rfl
              have hcz84_2 : wr.cell? ⟨gb105, 2, none⟩ = some (.int .i64 (Go.bits .and .i64 (a0_3 / 65536) 255)) := (blk_cell BK105.out 2).trans rfl
              have hcz84_3 : wr.cell? ⟨gb105, 3, none⟩ = some (.bool ((Go.bits .and .i64 (a0_3 / 32768) 1) == 1)) := (blk_cell BK105.out 3).trans rfl
              have hcz84_4 : wr.cell? ⟨gb105, 4, none⟩ = some (.int .i64 (Go.bits .and .i64 a0_3 32767)) := (blk_cell BK105.out 4).trans rfl
              have hcz84_5 : wr.cell? ⟨gb105, 5, none⟩ = some (u106005) := (blk_cell BK105.out 5).trans rfl
              have hfz84_0 := blk_frozen BK105.out 0
              have hfz84_1 := blk_frozen BK105.out 1
              have hfz84_2 := blk_frozen BK105.out 2
              have hfz84_3 := blk_frozen BK105.out 3
              have hfz84_4 := blk_frozen BK105.out 4
              have hfz84_5 := blk_frozen BK105.out 5
              have hcz85_0 : wr.cell? ⟨gb102, 0, none⟩ = some (.int .i64 x103000_2) := (blk_cell BK102.out 0).trans rfl
              have hcz85_1 : wr.cell? ⟨gb102, 1, none⟩ = some (.int .i64 x103001_2) := (blk_cell BK102.out 1).trans rfl
              have hcz85_2 : wr.cell? ⟨gb102, 2, none⟩ = some (.int .i64 x103002_2) := (blk_cell BK102.out 2).trans rfl
              have hcz85_3 : wr.cell? ⟨gb102, 3, none⟩ = some (.bool x103003_2) := (blk_cell BK102.out 3).trans rfl
              have hcz85_4 : wr.cell? ⟨gb102, 4, none⟩ = some (.int .i64 x103004_2) := (blk_cell BK102.out 4).trans rfl
              have hcz85_5 : wr.cell? ⟨gb102, 5, none⟩ = some (.slice none 0 0) := (blk_cell BK102.out 5).trans rfl
              have hfz85_0 := blk_frozen BK102.out 0
              have hfz85_1 := blk_frozen BK102.out 1
              have hfz85_2 := blk_frozen BK102.out 2
              have hfz85_3 := blk_frozen BK102.out 3
              have hfz85_4 := blk_frozen BK102.out 4
              have hfz85_5 := blk_frozen BK102.out 5
              obtain ⟨Ao86, co86, eo86⟩ := Kd.R_slice HO_106005.out
              subst eo86
              go_wp2
              refine bodyPost_ret (results_ct rfl _ _ gb102 49 #[.int .i64 a0_2, .int .i64 (a0_3 / 16777216), .int .i64 (Go.bits .and .i64 (a0_3 / 65536) 255), .bool ((Go.bits .and .i64 (a0_3 / 32768) 1) == 1), .int .i64 (Go.bits .and .i64 a0_3 32767), .slice Ao86 x106005_2.length co86] (0, 0) _ rfl (by (with_reducible repeat (first | refine blk_drewN ?_ _ | refine blk_drew ?_ | refine blk_alloc ?_ _)); refine blk_put (cs := #[.int .i64 a0_2, .int .i64 (a0_3 / 16777216), .int .i64 (Go.bits .and .i64 (a0_3 / 65536) 255), .bool ((Go.bits .and .i64 (a0_3 / 32768) 1) == 1), .int .i64 (Go.bits .and .i64 a0_3 32767), .slice none 0 0]) ?_ 5 _ rfl; (with_reducible repeat (first | refine blk_drewN ?_ _ | refine blk_drew ?_ | refine blk_alloc ?_ _)); refine blk_put (cs := #[.int .i64 a0_2, .int .i64 (a0_3 / 16777216), .int .i64 (Go.bits .and .i64 (a0_3 / 65536) 255), .bool ((Go.bits .and .i64 (a0_3 / 32768) 1) == 1), .int .i64 x103004_2, .slice none 0 0]) ?_ 4 _ rfl; (with_reducible repeat (first | refine blk_drewN ?_ _ | refine blk_drew ?_ | refine blk_alloc ?_ _)); refine blk_put (cs := #[.int .i64 a0_2, .int .i64 (a0_3 / 16777216), .int .i64 (Go.bits .and .i64 (a0_3 / 65536) 255), .bool x103003_2, .int .i64 x103004_2, .slice none 0 0]) ?_ 3 _ rfl; (with_reducible repeat (first | refine blk_drewN ?_ _ | refine blk_drew ?_ | refine blk_alloc ?_ _)); refine blk_put (cs := #[.int .i64 a0_2, .int .i64 (a0_3 / 16777216), .int .i64 x103002_2, .bool x103003_2, .int .i64 x103004_2, .slice none 0 0]) ?_ 2 _ rfl; (with_reducible repeat (first | refine blk_drewN ?_ _ | refine blk_drew ?_ | refine blk_alloc ?_ _)); refine blk_put (cs := #[.int .i64 a0_2, .int .i64 x103001_2, .int .i64 x103002_2, .bool x103003_2, .int .i64 x103004_2, .slice none 0 0]) ?_ 1 _ rfl; (with_reducible repeat (first | refine blk_drewN ?_ _ | refine blk_drew ?_ | refine blk_alloc ?_ _)); refine blk_put (cs := #[.int .i64 x103000_2, .int .i64 x103001_2, .int .i64 x103002_2, .bool x103003_2, .int .i64 x103004_2, .slice none 0 0]) ?_ 0 _ rfl; (with_reducible repeat (first | refine blk_drewN ?_ _ | refine blk_drew ?_ | refine blk_alloc ?_ _)); exact BK102.out) Try.underlying49 rfl (by kernel_rfl)) rfl ?_
              exact ⟨_, by first | rfl | (simp [errW_none, errW_some] <;> rfl) | (simp [*, errW_none, errW_some] <;> rfl), by (with_reducible repeat (first | apply Kd.R_alloc | apply Kd.R_drewN | apply Kd.R_drew)); exact Kd.R_mono (Kd.R_far (p := ⟨gb102, 5, none⟩) (Kd.R_far (p := ⟨gb102, 4, none⟩) (Kd.R_far (p := ⟨gb102, 3, none⟩) (Kd.R_far (p := ⟨gb102, 2, none⟩) (Kd.R_far (p := ⟨gb102, 1, none⟩) (Kd.R_far (p := ⟨gb102, 0, none⟩) (Kd.R_types HO_106005.out BK102.out (by decide)) (fun _ hk => hk.2) (.int .i64 a0_2)) (fun _ hk => hk.2) (.int .i64 (a0_3 / 16777216))) (fun _ hk => hk.2) (.int .i64 (Go.bits .and .i64 (a0_3 / 65536) 255))) (fun _ hk => hk.2) (.bool ((Go.bits .and .i64 (a0_3 / 32768) 1) == 1))) (fun _ hk => hk.2) (.int .i64 (Go.bits .and .i64 a0_3 32767))) (fun _ hk => hk.2) (.slice Ao86 x106005_2.length co86)) (fun _ hk => trivial), by repeat (first | (with_reducible first | exact HB.out | apply below_alloc | apply pw_below_drewN | apply below_drew1 | refine below_set ?_ GE101.out | refine below_set ?_ GE102.out | refine below_set ?_ GE105.out) | exact HB.out)⟩

end Go.Proofs.Ytjklgdpffmaamaa.PGo

namespace Go.Proofs.Ytjklgdpffmaamaa.OptOne
open Go.RowKit Go.PlainAid Go.Proofs.Ytjklgdpffmaamaa.Base Go.Proofs.Ytjklgdpffmaamaa.Oct Go.Proofs.Ytjklgdpffmaamaa.Nm Go.Proofs.Ytjklgdpffmaamaa.Pu Go.Proofs.Ytjklgdpffmaamaa.Pad Go.Proofs.Ytjklgdpffmaamaa.Hd Go.Proofs.Ytjklgdpffmaamaa.Wr
open Go.Proofs.Ytjklgdpffmaamaa.PGo (wimpleref1_Num.f wimpleref1_Num.l0 wimpleref1_Num.j0 wimpleref4_GetOpt.f wimpleref4_GetOpt.l0 wimpleref4_GetOpt.j0 wimpleref4_short.f wimpleref4_wide.f)
open Go.Proofs.YtjklgdpffmaamaaW.PrintWords (Ev bytesOf bytesOf_length LeO)
set_option linter.unusedVariables false
/-! ### Numbers -/
theorem rn_step {s : ByteArray} {i j : Nat} {n x : Int} {r : Int × Int × Int} (hs : s.size ≤ 1000000) (h : i + j < s.size) (hj : (j : Int) < n) (h0 : 0 ≤ x) (h1 : x ≤ 16777215)
    (k : Ev (fun k => wimpleref1_Num.l0 k s (i : Int) n (x * 256 + bt s (i + j)) ((j + 1 : Nat) : Int)) r) : Ev (fun k => wimpleref1_Num.l0 k s (i : Int) n x (j : Int)) r := by
  have r0 := bt_nonneg s (i + j)
  have r1 := bt_le s (i + j)
  refine Ev.step (fun k => by rw [wimpleref1_Num.l0]) (Ev.pos hj ?_)
  rw [Pu.w64 (x := (i : Int) + (j : Int)) (by omega) (by omega), show (i : Int) + (j : Int) = ((i + j : Nat) : Int) by omega, bt_is, Pu.w64 (x := x * 256) (by omega) (by omega), Pu.w64 (x := bt s (i + j)) (by omega) (by omega),
    Pu.or_shl8 _ _ h0 (by omega) r0 (by omega), Pu.w64 (x := (j : Int) + 1) (by omega) (by omega), show (j : Int) + 1 = ((j + 1 : Nat) : Int) by omega]
  exact Ev.pos (by omega) (Ev.pos (by omega) k)
theorem rn_end {s : ByteArray} {i : Nat} {j n x : Int} (h : n ≤ j) (hi : i ≤ 1000000) (hn : 0 ≤ n) (hn2 : n ≤ 4) : Ev (fun k => wimpleref1_Num.l0 k s (i : Int) n x j) (x, (i : Int) + n, 0) := by
  refine Ev.step (fun k => by rw [wimpleref1_Num.l0]) (Ev.neg (by omega) ?_)
  rw [Pu.w64 (x := (i : Int) + n) (by omega) (by omega)]
  exact Ev.some _ fun _ => rfl
theorem rn_in {s : ByteArray} {i : Nat} {n : Int} {r : Int × Int × Int} (hs : s.size ≤ 1000000) (hn : 0 ≤ n) (h : (i : Int) + n ≤ (s.size : Int)) (k : Ev (fun k => wimpleref1_Num.l0 k s (i : Int) n 0 0) r) : Ev (fun k => wimpleref1_Num.f k s (i : Int) n) r := by
  refine Ev.neg (by omega) (Ev.neg (by omega) ?_)
  rw [Pu.w64 (x := (s.size : Int) - (i : Int)) (by omega) (by omega), decide_eq_false (by omega)]
  exact Ev.step (fun k => by rw [wimpleref1_Num.j0]) (Ev.neg (by simp) k)
theorem rn_cut {s : ByteArray} {i : Nat} {n : Int} (hs : s.size ≤ 1000000) (hn : 0 ≤ n) (hn2 : n ≤ 4) (h : (s.size : Int) < (i : Int) + n) : Ev (fun k => wimpleref1_Num.f k s (i : Int) n) (0, 0, 300) := by
  refine Ev.neg (by omega) ?_
  by_cases hi : (i : Int) > (s.size : Int)
  · exact Ev.pos hi (Ev.step (fun k => by rw [wimpleref1_Num.j0]) (Ev.pos rfl (Ev.some _ fun _ => rfl)))
  · refine Ev.neg hi ?_
    rw [Pu.w64 (x := (s.size : Int) - (i : Int)) (by omega) (by omega), decide_eq_true (by omega)]
    exact Ev.step (fun k => by rw [wimpleref1_Num.j0]) (Ev.pos rfl (Ev.some _ fun _ => rfl))
theorem rnum2 {s : ByteArray} {i : Nat} (hs : s.size ≤ 1000000) (h : i + 2 ≤ s.size) : Ev (fun k => wimpleref1_Num.f k s (i : Int) 2) (be2 s i, ((i + 2 : Nat) : Int), 0) := by
  have r0 := bt_nonneg s i
  have r1 := bt_le s i
  refine rn_in hs (by decide) (by omega) (rn_step (j := 0) hs (by omega) (by decide) (by decide) (by decide) ?_)
  refine rn_step (j := 1) hs (by omega) (by decide) (by rw [Nat.add_zero]; omega) (by rw [Nat.add_zero]; omega) ?_
  have := rn_end (s := s) (i := i) (j := ((1 + 1 : Nat) : Int)) (n := 2) (x := (0 * 256 + bt s (i + 0)) * 256 + bt s (i + 1)) (by decide) (by omega) (by decide) (by decide)
  rw [Nat.add_zero, Int.zero_mul, Int.zero_add] at this ⊢
  exact this
end Go.Proofs.Ytjklgdpffmaamaa.OptOne

namespace Go.Proofs.Ytjklgdpffmaamaa.PGo
open Go.RowKit Go.Proofs.YtjklgdpffmaamaaW.PrintWords Go.Proofs.YtjklgdpffmaamaaW.PrintLast Go.Proofs.YtjklgdpffmaamaaW.PrintMore
attribute [local go_sem] max2_int min2_int max_two min_two max_three min_three max_four min_four   -- for this text's walks alone
set_option linter.unusedVariables false
set_option linter.unusedSimpArgs false

/-! ### wimpleref4_FindOpt: function 30 -/
def wimpleref4_FindOpt.l0 : Nat → Int → Int → Int → Bool → Int → Bool → Bool → Bool → Bool → Int → Int → List (S40) → List (S53) → List (S53) → List (S53) → Int → Int → Int → Bool → Int → List (S55) → Option (Int × Int × Int × Bool × Int × (List (S55)) × Int)
  | 0, _, _, _, _, _, _, _, _, _, _, _, _, _, _, _, _, _, _, _, _, _ => none
  | k + 1, x4, x6, x116000, x116001, x116002, x116003, x116004, x116005, x116006, x116007, x116008, x116009, x116010, x116011, x116012, x118000, x118001, x118002, x118003, x118004, x118005 => if x6 < (x116012.length : Int) then (if 0 ≤ x6 then (if ((rd_T53 x116012 x6).f1) = 41 then (if x4 = 0 then ((wimpleref4_GetOpt.f k ((rd_T53 x116012 x6).f0) ((rd_T53 x116012 x6).f1) ((rd_T53 x116012 x6).f2) ((rd_T53 x116012 x6).f3) ((rd_T53 x116012 x6).f4)).bind fun bt120 => (wimpleref4_FindOpt.l0 k (wrap64 (x4 + 1)) (wrap64 (x6 + 1)) x116000 x116001 x116002 x116003 x116004 x116005 x116006 x116007 x116008 x116009 x116010 x116011 x116012 bt120.1 bt120.2.1 bt120.2.2.1 bt120.2.2.2.1 bt120.2.2.2.2.1 bt120.2.2.2.2.2.1)) else (wimpleref4_FindOpt.l0 k (wrap64 (x4 + 1)) (wrap64 (x6 + 1)) x116000 x116001 x116002 x116003 x116004 x116005 x116006 x116007 x116008 x116009 x116010 x116011 x116012 x118000 x118001 x118002 x118003 x118004 x118005)) else (wimpleref4_FindOpt.l0 k x4 (wrap64 (x6 + 1)) x116000 x116001 x116002 x116003 x116004 x116005 x116006 x116007 x116008 x116009 x116010 x116011 x116012 x118000 x118001 x118002 x118003 x118004 x118005)) else (none)) else (some (x118000, x118001, x118002, x118003, x118004, x118005, x4))
def wimpleref4_FindOpt.f (k : Nat) (a0_0 : Int) (a0_1 : Bool) (a0_2 : Int) (a0_3 : Bool) (a0_4 : Bool) (a0_5 : Bool) (a0_6 : Bool) (a0_7 : Int) (a0_8 : Int) (l0_9 : List (S40)) (l0_10 : List (S53)) (l0_11 : List (S53)) (l0_12 : List (S53)) : Option (Int × Int × Int × Bool × Int × (List (S55)) × Int) := wimpleref4_FindOpt.l0 k 0 0 a0_0 a0_1 a0_2 a0_3 a0_4 a0_5 a0_6 a0_7 a0_8 l0_9 l0_10 l0_11 l0_12 0 0 0 false 0 ([] : List (S55))
set_option maxHeartbeats 8000000 in
set_option maxRecDepth 100000 in
theorem wimpleref4_FindOpt.calls (k : Nat) (a0_0 : Int) (a0_1 : Bool) (a0_2 : Int) (a0_3 : Bool) (a0_4 : Bool) (a0_5 : Bool) (a0_6 : Bool) (a0_7 : Int) (a0_8 : Int) (A0_9 : Option Addr) (c0_9 : Nat) (l0_9 : List (S40)) (A0_10 : Option Addr) (c0_10 : Nat) (l0_10 : List (S53)) (A0_11 : Option Addr) (c0_11 : Nat) (l0_11 : List (S53)) (A0_12 : Option Addr) (c0_12 : Nat) (l0_12 : List (S53)) (r1 : Int) (r2 : Int) (r3 : Int) (r4 : Bool) (r5 : Int) (r6 : List (S55)) (r7 : Int) (w : World) (hr0_9 : Kd.C k40 w A0_9 l0_9.length l0_9) (hc0_9 : l0_9.length ≤ c0_9) (hr0_10 : Kd.C k53 w A0_10 l0_10.length l0_10) (hc0_10 : l0_10.length ≤ c0_10) (hr0_11 : Kd.C k53 w A0_11 l0_11.length l0_11) (hc0_11 : l0_11.length ≤ c0_11) (hr0_12 : Kd.C k53 w A0_12 l0_12.length l0_12) (hc0_12 : l0_12.length ≤ c0_12) (h : wimpleref4_FindOpt.f k a0_0 a0_1 a0_2 a0_3 a0_4 a0_5 a0_6 a0_7 a0_8 l0_9 l0_10 l0_11 l0_12 = some (r1, r2, r3, r4, r5, r6, r7)) :
    Calls Try.prog 30 #[.agg #[.int .i64 a0_0, .bool a0_1, .int .i64 a0_2, .bool a0_3, .bool a0_4, .bool a0_5, .bool a0_6, .int .i64 a0_7, .int .i64 a0_8, .slice A0_9 l0_9.length c0_9, .slice A0_10 l0_10.length c0_10, .slice A0_11 l0_11.length c0_11, .slice A0_12 l0_12.length c0_12]] w fun e w' => ∃ v5_ : Value, e = .returned (.tuple #[.agg #[.int .i64 r1, .int .i64 r2, .int .i64 r3, .bool r4, .int .i64 r5, v5_], .int .i64 r7]) ∧ Kd.R k55 55 w' w.heap.size (fun _ => True) v5_ r6 ∧ Below w.heap.size w w' := by
  have hu27 := Try.underlying27
  have hu49 := Try.underlying49
  have hu53 := Try.underlying53
  have HR0_9 := Aside0.mk hr0_9
  have HC0_9 := Aside0.mk hc0_9
  clear hr0_9 hc0_9
  have HR0_10 := Aside0.mk hr0_10
  have HC0_10 := Aside0.mk hc0_10
  clear hr0_10 hc0_10
  have HR0_11 := Aside0.mk hr0_11
  have HC0_11 := Aside0.mk hc0_11
  clear hr0_11 hc0_11
  have HR0_12 := Aside0.mk hr0_12
  have HC0_12 := Aside0.mk hc0_12
  clear hr0_12 hc0_12
  have HB := Aside0.mk (Below.refl w.heap.size w)
  have H : (wimpleref4_FindOpt.l0 k 0 0 a0_0 a0_1 a0_2 a0_3 a0_4 a0_5 a0_6 a0_7 a0_8 l0_9 l0_10 l0_11 l0_12 0 0 0 false 0 ([] : List (S55))) = some (r1, r2, r3, r4, r5, r6, r7) := h
  clear h
  have H' := Aside0.mk H
  clear H
  go_enter Try.func30, Try.ntmps30
  go_wp2_with (first | ((with_reducible refine gate_dst (N := 1) rfl ?_); refine box_event ?hg (N := 1) ?hd (cs := #[.int .i64 a0_0, .bool a0_1, .int .i64 a0_2, .bool a0_3, .bool a0_4, .bool a0_5, .bool a0_6, .int .i64 a0_7, .int .i64 a0_8, .slice A0_9 l0_9.length c0_9, .slice A0_10 l0_10.length c0_10, .slice A0_11 l0_11.length c0_11, .slice A0_12 l0_12.length c0_12]) (t := 27) ?hr ?_; (case hd => rfl); (case hg => rfl); (case hr => first | (go_simp; done) | (go_simp; rfl)); intro gb115 hg w2 hbox hb; have n0_ := Aside0.mk (below_step (by repeat (first | (with_reducible first | exact HB.out | apply below_alloc | apply pw_below_drewN | apply below_drew1) | exact HB.out)) hb); have n1_ := Aside0.mk (hbox); have n2_ := Aside0.mk ((by rw [hg]; exact (below_size (by repeat (first | (with_reducible first | exact HB.out | apply below_alloc | apply pw_below_drewN | apply below_drew1) | exact HB.out))) : w.heap.size ≤ gb115)); have n3_ := Aside0.mk ((by rw [hg]; exact (below_size (by repeat (first | (with_reducible first | exact HB.out | apply below_alloc | apply pw_below_drewN | apply below_drew1) | exact HB.out))) : w.heap.size ≤ gb115)); clear HB; have HB := n0_; have BK115 := n1_; have GW115 := n2_; have GE115 := n3_; clear n0_ n1_ n2_ n3_; clear hb hbox hg) | ((with_reducible refine gate_dst (N := 2) rfl ?_); refine box_event ?hg (N := 2) ?hd (cs := #[.int .i64 0, .int .i64 0, .int .i64 0, .bool false, .int .i64 0, .slice none 0 0]) (t := 49) ?hr ?_; (case hd => rfl); (case hg => rfl); (case hr => first | (go_simp; done) | (go_simp; rfl)); intro gb116 hg w3 hbox hb; have n0_ := Aside0.mk (blk_below (g := gb115) (o := .cells #[.int .i64 a0_0, .bool a0_1, .int .i64 a0_2, .bool a0_3, .bool a0_4, .bool a0_5, .bool a0_6, .int .i64 a0_7, .int .i64 a0_8, .slice A0_9 l0_9.length c0_9, .slice A0_10 l0_10.length c0_10, .slice A0_11 l0_11.length c0_11, .slice A0_12 l0_12.length c0_12] 27 (0, 0)) (by (with_reducible repeat (first | refine blk_drewN ?_ _ | refine blk_drew ?_ | refine blk_alloc ?_ _)); exact BK115.out) hb); have n1_ := Aside0.mk (below_step (by repeat (first | (with_reducible first | exact HB.out | apply below_alloc | apply pw_below_drewN | apply below_drew1 | refine below_set ?_ GE115.out) | exact HB.out)) hb); have n2_ := Aside0.mk (hbox); have n3_ := Aside0.mk ((by rw [hg]; exact (below_size (by repeat (first | (with_reducible first | exact HB.out | apply below_alloc | apply pw_below_drewN | apply below_drew1 | refine below_set ?_ GE115.out) | exact HB.out))) : w.heap.size ≤ gb116)); have n4_ := Aside0.mk ((by rw [hg]; exact (below_size (by repeat (first | (with_reducible first | exact HB.out | apply below_alloc | apply pw_below_drewN | apply below_drew1 | refine below_set ?_ GE115.out) | exact HB.out))) : w.heap.size ≤ gb116)); have n5_ := Aside0.mk ((by rw [hg]; exact Nat.ne_of_lt (blk_lt (g := gb115) (o := .cells #[.int .i64 a0_0, .bool a0_1, .int .i64 a0_2, .bool a0_3, .bool a0_4, .bool a0_5, .bool a0_6, .int .i64 a0_7, .int .i64 a0_8, .slice A0_9 l0_9.length c0_9, .slice A0_10 l0_10.length c0_10, .slice A0_11 l0_11.length c0_11, .slice A0_12 l0_12.length c0_12] 27 (0, 0)) (by (with_reducible repeat (first | refine blk_drewN ?_ _ | refine blk_drew ?_ | refine blk_alloc ?_ _)); exact BK115.out)) : gb115 ≠ gb116)); have n6_ := Aside0.mk ((by rw [hg]; exact Nat.ne_of_gt (blk_lt (g := gb115) (o := .cells #[.int .i64 a0_0, .bool a0_1, .int .i64 a0_2, .bool a0_3, .bool a0_4, .bool a0_5, .bool a0_6, .int .i64 a0_7, .int .i64 a0_8, .slice A0_9 l0_9.length c0_9, .slice A0_10 l0_10.length c0_10, .slice A0_11 l0_11.length c0_11, .slice A0_12 l0_12.length c0_12] 27 (0, 0)) (by (with_reducible repeat (first | refine blk_drewN ?_ _ | refine blk_drew ?_ | refine blk_alloc ?_ _)); exact BK115.out)) : gb116 ≠ gb115)); clear BK115; clear HB; have BK115 := n0_; have HB := n1_; have BK116 := n2_; have GW116 := n3_; have GE116 := n4_; have NB115_116 := n5_; have NB116_115 := n6_; clear n0_ n1_ n2_ n3_ n4_ n5_ n6_; clear hb hbox hg) | ((with_reducible refine gate_dst (N := 5) rfl ?_); refine box_event ?hg (N := 5) ?hd (cs := #[.int .i64 0, .int .i64 0, .int .i64 0, .bool false, .int .i64 0, .slice none 0 0]) (t := 49) ?hr ?_; (case hd => rfl); (case hg => rfl); (case hr => first | (go_simp; done) | (go_simp; rfl)); intro gb117 hg w4 hbox hb; have n0_ := Aside0.mk (blk_below (g := gb115) (o := .cells #[.int .i64 a0_0, .bool a0_1, .int .i64 a0_2, .bool a0_3, .bool a0_4, .bool a0_5, .bool a0_6, .int .i64 a0_7, .int .i64 a0_8, .slice A0_9 l0_9.length c0_9, .slice A0_10 l0_10.length c0_10, .slice A0_11 l0_11.length c0_11, .slice A0_12 l0_12.length c0_12] 27 (0, 0)) (by (with_reducible repeat (first | refine blk_drewN ?_ _ | refine blk_drew ?_ | refine blk_alloc ?_ _)); exact BK115.out) hb); have n1_ := Aside0.mk (blk_below (g := gb116) (o := .cells #[.int .i64 0, .int .i64 0, .int .i64 0, .bool false, .int .i64 0, .slice none 0 0] 49 (0, 0)) (by (with_reducible repeat (first | refine blk_drewN ?_ _ | refine blk_drew ?_ | refine blk_alloc ?_ _)); exact BK116.out) hb); have n2_ := Aside0.mk (below_step (by repeat (first | (with_reducible first | exact HB.out | apply below_alloc | apply pw_below_drewN | apply below_drew1 | refine below_set ?_ GE115.out | refine below_set ?_ GE116.out) | exact HB.out)) hb); have n3_ := Aside0.mk (hbox); have n4_ := Aside0.mk ((by rw [hg]; exact (below_size (by repeat (first | (with_reducible first | exact HB.out | apply below_alloc | apply pw_below_drewN | apply below_drew1 | refine below_set ?_ GE115.out | refine below_set ?_ GE116.out) | exact HB.out))) : w.heap.size ≤ gb117)); have n5_ := Aside0.mk ((by rw [hg]; exact (below_size (by repeat (first | (with_reducible first | exact HB.out | apply below_alloc | apply pw_below_drewN | apply below_drew1 | refine below_set ?_ GE115.out | refine below_set ?_ GE116.out) | exact HB.out))) : w.heap.size ≤ gb117)); have n6_ := Aside0.mk ((by rw [hg]; exact Nat.ne_of_lt (blk_lt (g := gb115) (o := .cells #[.int .i64 a0_0, .bool a0_1, .int .i64 a0_2, .bool a0_3, .bool a0_4, .bool a0_5, .bool a0_6, .int .i64 a0_7, .int .i64 a0_8, .slice A0_9 l0_9.length c0_9, .slice A0_10 l0_10.length c0_10, .slice A0_11 l0_11.length c0_11, .slice A0_12 l0_12.length c0_12] 27 (0, 0)) (by (with_reducible repeat (first | refine blk_drewN ?_ _ | refine blk_drew ?_ | refine blk_alloc ?_ _)); exact BK115.out)) : gb115 ≠ gb117)); have n7_ := Aside0.mk ((by rw [hg]; exact Nat.ne_of_gt (blk_lt (g := gb115) (o := .cells #[.int .i64 a0_0, .bool a0_1, .int .i64 a0_2, .bool a0_3, .bool a0_4, .bool a0_5, .bool a0_6, .int .i64 a0_7, .int .i64 a0_8, .slice A0_9 l0_9.length c0_9, .slice A0_10 l0_10.length c0_10, .slice A0_11 l0_11.length c0_11, .slice A0_12 l0_12.length c0_12] 27 (0, 0)) (by (with_reducible repeat (first | refine blk_drewN ?_ _ | refine blk_drew ?_ | refine blk_alloc ?_ _)); exact BK115.out)) : gb117 ≠ gb115)); have n8_ := Aside0.mk ((by rw [hg]; exact Nat.ne_of_lt (blk_lt (g := gb116) (o := .cells #[.int .i64 0, .int .i64 0, .int .i64 0, .bool false, .int .i64 0, .slice none 0 0] 49 (0, 0)) (by (with_reducible repeat (first | refine blk_drewN ?_ _ | refine blk_drew ?_ | refine blk_alloc ?_ _)); exact BK116.out)) : gb116 ≠ gb117)); have n9_ := Aside0.mk ((by rw [hg]; exact Nat.ne_of_gt (blk_lt (g := gb116) (o := .cells #[.int .i64 0, .int .i64 0, .int .i64 0, .bool false, .int .i64 0, .slice none 0 0] 49 (0, 0)) (by (with_reducible repeat (first | refine blk_drewN ?_ _ | refine blk_drew ?_ | refine blk_alloc ?_ _)); exact BK116.out)) : gb117 ≠ gb116)); clear BK115; clear BK116; clear HB; have BK115 := n0_; have BK116 := n1_; have HB := n2_; have BK117 := n3_; have GW117 := n4_; have GE117 := n5_; have NB115_117 := n6_; have NB117_115 := n7_; have NB116_117 := n8_; have NB117_116 := n9_; clear n0_ n1_ n2_ n3_ n4_ n5_ n6_ n7_ n8_ n9_; clear hb hbox hg))
  go_loopg [4, 6] k (fun kq v4 v6 w' => ∃ (x4_1 : Int) (x6_1 : Int) (x118000_1 : Int) (x118001_1 : Int) (x118002_1 : Int) (x118003_1 : Bool) (x118004_1 : Int) (x118005_1 : List (S55)) (u118005 : Value), v4 = .int .i64 x4_1 ∧ v6 = .int .i64 x6_1 ∧ Aside0 (wimpleref4_FindOpt.l0 kq x4_1 x6_1 a0_0 a0_1 a0_2 a0_3 a0_4 a0_5 a0_6 a0_7 a0_8 l0_9 l0_10 l0_11 l0_12 x118000_1 x118001_1 x118002_1 x118003_1 x118004_1 x118005_1 = some (r1, r2, r3, r4, r5, r6, r7)) ∧ Aside0 (kq ≤ k) ∧ Aside0 (Kd.R k55 55 w' w.heap.size (fun _ => True) u118005 x118005_1) ∧ Aside0 (w'.heap[gb115]? = some (.cells #[.int .i64 a0_0, .bool a0_1, .int .i64 a0_2, .bool a0_3, .bool a0_4, .bool a0_5, .bool a0_6, .int .i64 a0_7, .int .i64 a0_8, (.slice A0_9 l0_9.length c0_9), (.slice A0_10 l0_10.length c0_10), (.slice A0_11 l0_11.length c0_11), (.slice A0_12 l0_12.length c0_12)] 27 (0, 0))) ∧ Aside0 (w'.heap[gb116]? = some (.cells #[.int .i64 0, .int .i64 0, .int .i64 0, .bool false, .int .i64 0, (.slice none 0 0)] 49 (0, 0))) ∧ Aside0 (w'.heap[gb117]? = some (.cells #[.int .i64 x118000_1, .int .i64 x118001_1, .int .i64 x118002_1, .bool x118003_1, .int .i64 x118004_1, u118005] 49 (0, 0))) ∧ Aside0 (Below w.heap.size w w'))
  case atStart => exact ⟨(0), (0), (0), (0), (0), (false), (0), (([] : List (S55))), (.slice none 0 0), (by first | rfl | (simp; done) | (simp [*]; done)), (by first | rfl | (simp; done) | (simp [*]; done)), H', ⟨Nat.le_refl _⟩, ⟨by first | exact Kd.R_nil _ _ _ _ _ | exact Kd.N_nil _ _ _ _ _ | exact Kd.V_nil _ _ _ _ _ | exact Kd.Q_nil _ _ _ _ _ | exact Kd.S_nil _ _ _ _ _⟩, ⟨by (with_reducible repeat (first | refine blk_drewN ?_ _ | refine blk_drew ?_ | refine blk_alloc ?_ _)); exact BK115.out⟩, ⟨by (with_reducible repeat (first | refine blk_drewN ?_ _ | refine blk_drew ?_ | refine blk_alloc ?_ _)); exact BK116.out⟩, ⟨by (with_reducible repeat (first | refine blk_drewN ?_ _ | refine blk_drew ?_ | refine blk_alloc ?_ _)); exact BK117.out⟩, ⟨by repeat (first | (with_reducible first | exact HB.out | apply below_alloc | apply pw_below_drewN | apply below_drew1 | refine below_set ?_ GE115.out | refine below_set ?_ GE116.out | refine below_set ?_ GE117.out) | exact HB.out)⟩⟩
  case round =>
    clear H'
    try clear p2
    try clear c3
    obtain ⟨x4_1, x6_1, x118000_1, x118001_1, x118002_1, x118003_1, x118004_1, x118005_1, u118005, rfl, rfl, HA, HK1, HO_118005, BK115, BK116, BK117, HB⟩ := hrel
    cases gk with
    | zero => exact absurd HA.out (by simp [wimpleref4_FindOpt.l0])
    | succ k1 =>
      have H := HA.out
      clear HA
      simp only [wimpleref4_FindOpt.l0] at H
      by_cases c5 : x6_1 < (l0_12.length : Int)
      · rw [if_pos c5] at H
        have c5b0 : decide (x6_1 < (l0_12.length : Int)) = true := decide_eq_true c5
        clear c5
        by_cases c6 : 0 ≤ x6_1
        · rw [if_pos c6] at H
          have c6b0 : decide (0 ≤ x6_1) = true := decide_eq_true c6
          clear c6
          by_cases c7 : ((rd_T53 l0_12 x6_1).f1) = 41
          · rw [if_pos c7] at H
            have c7b0 : (((rd_T53 l0_12 x6_1).f1) == 41) = true := beq_iff_eq.mpr c7
            have c7b1 : (((rd_T53 l0_12 x6_1).f1) != 41) = false := bne_eq_false_iff_eq.mpr c7
            clear c7
            by_cases c8 : x4_1 = 0
            · rw [if_pos c8] at H
              have c8b0 : (x4_1 == 0) = true := beq_iff_eq.mpr c8
              have c8b1 : (x4_1 != 0) = false := bne_eq_false_iff_eq.mpr c8
              clear c8
              replace H := Option.bind_eq_some_iff.mp H
              obtain ⟨⟨t120, t121, t122, t123, t124, t125, t128⟩, A90, H⟩ := H
              replace H : (wimpleref4_FindOpt.l0 k1 (wrap64 (x4_1 + 1)) (wrap64 (x6_1 + 1)) a0_0 a0_1 a0_2 a0_3 a0_4 a0_5 a0_6 a0_7 a0_8 l0_9 l0_10 l0_11 l0_12 t120 t121 t122 t123 t124 t125) = some (r1, r2, r3, r4, r5, r6, r7) := H
              have A9 := Aside0.mk A90
              clear A90
              have H' := Aside0.mk H
              clear H
              have hnb10 := NB115_116.out
              have hnc10 := NB116_115.out
              have hnb11 := NB115_117.out
              have hnc11 := NB117_115.out
              have hcz12_0 : wr.cell? ⟨gb115, 0, none⟩ = some (.int .i64 a0_0) := (blk_cell BK115.out 0).trans rfl
              have hcz12_1 : wr.cell? ⟨gb115, 1, none⟩ = some (.bool a0_1) := (blk_cell BK115.out 1).trans rfl
              have hcz12_2 : wr.cell? ⟨gb115, 2, none⟩ = some (.int .i64 a0_2) := (blk_cell BK115.out 2).trans rfl
              have hcz12_3 : wr.cell? ⟨gb115, 3, none⟩ = some (.bool a0_3) := (blk_cell BK115.out 3).trans rfl
              have hcz12_4 : wr.cell? ⟨gb115, 4, none⟩ = some (.bool a0_4) := (blk_cell BK115.out 4).trans rfl
              have hcz12_5 : wr.cell? ⟨gb115, 5, none⟩ = some (.bool a0_5) := (blk_cell BK115.out 5).trans rfl
              have hcz12_6 : wr.cell? ⟨gb115, 6, none⟩ = some (.bool a0_6) := (blk_cell BK115.out 6).trans rfl
              have hcz12_7 : wr.cell? ⟨gb115, 7, none⟩ = some (.int .i64 a0_7) := (blk_cell BK115.out 7).trans rfl
              have hcz12_8 : wr.cell? ⟨gb115, 8, none⟩ = some (.int .i64 a0_8) := (blk_cell BK115.out 8).trans rfl
              have hcz12_9 : wr.cell? ⟨gb115, 9, none⟩ = some (.slice A0_9 l0_9.length c0_9) := (blk_cell BK115.out 9).trans rfl
              have hcz12_10 : wr.cell? ⟨gb115, 10, none⟩ = some (.slice A0_10 l0_10.length c0_10) := (blk_cell BK115.out 10).trans rfl
              have hcz12_11 : wr.cell? ⟨gb115, 11, none⟩ = some (.slice A0_11 l0_11.length c0_11) := (blk_cell BK115.out 11).trans rfl
              have hcz12_12 : wr.cell? ⟨gb115, 12, none⟩ = some (.slice A0_12 l0_12.length c0_12) := (blk_cell BK115.out 12).trans rfl
              have hfz12_0 := blk_frozen BK115.out 0
              have hfz12_1 := blk_frozen BK115.out 1
              have hfz12_2 := blk_frozen BK115.out 2
              have hfz12_3 := blk_frozen BK115.out 3
              have hfz12_4 := blk_frozen BK115.out 4
              have hfz12_5 := blk_frozen BK115.out 5
              have hfz12_6 := blk_frozen BK115.out 6
              have hfz12_7 := blk_frozen BK115.out 7
              have hfz12_8 := blk_frozen BK115.out 8
              have hfz12_9 := blk_frozen BK115.out 9
              have hfz12_10 := blk_frozen BK115.out 10
              have hfz12_11 := blk_frozen BK115.out 11
              have hfz12_12 := blk_frozen BK115.out 12
              have p118 : 0 ≤ (x6_1 : Int) := of_decide_eq_true (by first | (with_reducible assumption) | assumption)
              have q118 : x6_1 < (l0_12.length : Int) := of_decide_eq_true (by first | (with_reducible assumption) | assumption)
              obtain ⟨ad118, e118, hx118_0, hx118_1, hx118_2, hx118_3, hx118_4⟩ := at_T53 HR0_12.out x6_1 p118 q118
              cases e118
              replace hx118_0 := (HB.out.cell (World.block_lt_of_cell? w _ hx118_0)).trans hx118_0
              replace hx118_1 := (HB.out.cell (World.block_lt_of_cell? w _ hx118_1)).trans hx118_1
              replace hx118_2 := (HB.out.cell (World.block_lt_of_cell? w _ hx118_2)).trans hx118_2
              replace hx118_3 := (HB.out.cell (World.block_lt_of_cell? w _ hx118_3)).trans hx118_3
              replace hx118_4 := (HB.out.cell (World.block_lt_of_cell? w _ hx118_4)).trans hx118_4
              replace p118 := eq_true p118
              replace q118 := eq_true q118
              have p119 : 0 ≤ (x6_1 : Int) := of_decide_eq_true (by first | (with_reducible assumption) | assumption)
              have q119 : x6_1 < (l0_12.length : Int) := of_decide_eq_true (by first | (with_reducible assumption) | assumption)
              obtain ⟨ad119, e119, hx119_0, hx119_1, hx119_2, hx119_3, hx119_4⟩ := at_T53 HR0_12.out x6_1 p119 q119
              obtain rfl : ad118 = ad119 := (by injection e119)
              replace hx119_0 := (HB.out.cell (World.block_lt_of_cell? w _ hx119_0)).trans hx119_0
              replace hx119_1 := (HB.out.cell (World.block_lt_of_cell? w _ hx119_1)).trans hx119_1
              replace hx119_2 := (HB.out.cell (World.block_lt_of_cell? w _ hx119_2)).trans hx119_2
              replace hx119_3 := (HB.out.cell (World.block_lt_of_cell? w _ hx119_3)).trans hx119_3
              replace hx119_4 := (HB.out.cell (World.block_lt_of_cell? w _ hx119_4)).trans hx119_4
              replace p119 := eq_true p119
              replace q119 := eq_true q119
              go_wp2_with (first | ((with_reducible refine gate_dst (N := 31) rfl ?_); (with_reducible refine gate_callee (f := 27) rfl ?_); refine goesL_ (some 31) rfl rfl Try.func27 (by kernel_rfl) rfl #[.agg #[.string ((rd_T53 l0_12 x6_1).f0), .int .i64 ((rd_T53 l0_12 x6_1).f1), .int .i64 ((rd_T53 l0_12 x6_1).f2), .int .i64 ((rd_T53 l0_12 x6_1).f3), .string ((rd_T53 l0_12 x6_1).f4)]] rfl (by (try simp only [List.map_toArray, List.map_cons, List.map_nil]); first | done | rfl | (simp only [List.length_drop, List.length_take]; rfl)) ?_; (with_reducible refine (wimpleref4_GetOpt.calls k1 ((rd_T53 l0_12 x6_1).f0) ((rd_T53 l0_12 x6_1).f1) ((rd_T53 l0_12 x6_1).f2) ((rd_T53 l0_12 x6_1).f3) ((rd_T53 l0_12 x6_1).f4) t120 t121 t122 t123 t124 t125 t128 _ A9.out).mono ?_); rintro e w13 ⟨v126, rfl, ho0, hb⟩; refine ⟨_, rfl, ?_⟩; have n0_ := Aside0.mk (Kd.R_elder' (by (with_reducible repeat (first | apply Kd.R_alloc | apply Kd.R_drewN | apply Kd.R_drew)); exact HO_118005.out) (Kd.R_base ho0) hb); have n1_ := Aside0.mk (Kd.R_lower (Kd.R_new' ho0 (Kd.R_lt (by (with_reducible repeat (first | apply Kd.R_alloc | apply Kd.R_drewN | apply Kd.R_drew)); exact HO_118005.out))) (below_size (by repeat (first | (with_reducible first | exact HB.out | apply below_alloc | apply pw_below_drewN | apply below_drew1 | refine below_set ?_ GE115.out | refine below_set ?_ GE116.out | refine below_set ?_ GE117.out) | exact HB.out)))); have n2_ := Aside0.mk (blk_below (g := gb115) (o := .cells #[.int .i64 a0_0, .bool a0_1, .int .i64 a0_2, .bool a0_3, .bool a0_4, .bool a0_5, .bool a0_6, .int .i64 a0_7, .int .i64 a0_8, .slice A0_9 l0_9.length c0_9, .slice A0_10 l0_10.length c0_10, .slice A0_11 l0_11.length c0_11, .slice (some ad118) l0_12.length c0_12] 27 (0, 0)) (by (with_reducible repeat (first | refine blk_drewN ?_ _ | refine blk_drew ?_ | refine blk_alloc ?_ _)); exact BK115.out) hb); have n3_ := Aside0.mk (blk_below (g := gb116) (o := .cells #[.int .i64 0, .int .i64 0, .int .i64 0, .bool false, .int .i64 0, .slice none 0 0] 49 (0, 0)) (by (with_reducible repeat (first | refine blk_drewN ?_ _ | refine blk_drew ?_ | refine blk_alloc ?_ _)); exact BK116.out) hb); have n4_ := Aside0.mk (blk_below (g := gb117) (o := .cells #[.int .i64 x118000_1, .int .i64 x118001_1, .int .i64 x118002_1, .bool x118003_1, .int .i64 x118004_1, u118005] 49 (0, 0)) (by (with_reducible repeat (first | refine blk_drewN ?_ _ | refine blk_drew ?_ | refine blk_alloc ?_ _)); exact BK117.out) hb); have n5_ := Aside0.mk (below_step (by repeat (first | (with_reducible first | exact HB.out | apply below_alloc | apply pw_below_drewN | apply below_drew1 | refine below_set ?_ GE115.out | refine below_set ?_ GE116.out | refine below_set ?_ GE117.out) | exact HB.out)) hb); clear HO_118005; clear BK115; clear BK116; clear BK117; clear HB; have HO_118005 := n0_; have HO127 := n1_; have BK115 := n2_; have BK116 := n3_; have BK117 := n4_; have HB := n5_; clear n0_ n1_ n2_ n3_ n4_ n5_; (try clear hb); (try clear hb2); (try clear hk); (try clear hi); (try clear ho0)) | ((with_reducible refine gate_dst (N := 7) rfl ?_); refine box_event ?hg (N := 7) ?hd (cs := #[.int .i64 0, .int .i64 0, .int .i64 0, .bool false, .int .i64 0, .slice none 0 0]) (t := 49) ?hr ?_; (case hd => rfl); (case hg => rfl); (case hr => first | (go_simp; done) | (go_simp; rfl)); intro gb129 hg w14 hbox hb; have n0_ := Aside0.mk (Kd.R_below (by (with_reducible repeat (first | apply Kd.R_alloc | apply Kd.R_drewN | apply Kd.R_drew)); exact HO_118005.out) hb); have n1_ := Aside0.mk (Kd.R_below (by (with_reducible repeat (first | apply Kd.R_alloc | apply Kd.R_drewN | apply Kd.R_drew)); exact HO127.out) hb); have n2_ := Aside0.mk (blk_below (g := gb115) (o := .cells #[.int .i64 a0_0, .bool a0_1, .int .i64 a0_2, .bool a0_3, .bool a0_4, .bool a0_5, .bool a0_6, .int .i64 a0_7, .int .i64 a0_8, .slice A0_9 l0_9.length c0_9, .slice A0_10 l0_10.length c0_10, .slice A0_11 l0_11.length c0_11, .slice (some ad118) l0_12.length c0_12] 27 (0, 0)) (by (with_reducible repeat (first | refine blk_drewN ?_ _ | refine blk_drew ?_ | refine blk_alloc ?_ _)); exact BK115.out) hb); have n3_ := Aside0.mk (blk_below (g := gb116) (o := .cells #[.int .i64 0, .int .i64 0, .int .i64 0, .bool false, .int .i64 0, .slice none 0 0] 49 (0, 0)) (by (with_reducible repeat (first | refine blk_drewN ?_ _ | refine blk_drew ?_ | refine blk_alloc ?_ _)); exact BK116.out) hb); have n4_ := Aside0.mk (blk_below (g := gb117) (o := .cells #[.int .i64 x118000_1, .int .i64 x118001_1, .int .i64 x118002_1, .bool x118003_1, .int .i64 x118004_1, u118005] 49 (0, 0)) (by (with_reducible repeat (first | refine blk_drewN ?_ _ | refine blk_drew ?_ | refine blk_alloc ?_ _)); exact BK117.out) hb); have n5_ := Aside0.mk (below_step (by repeat (first | (with_reducible first | exact HB.out | apply below_alloc | apply pw_below_drewN | apply below_drew1 | refine below_set ?_ GE115.out | refine below_set ?_ GE116.out | refine below_set ?_ GE117.out) | exact HB.out)) hb); have n6_ := Aside0.mk (hbox); have n7_ := Aside0.mk ((by rw [hg]; exact (below_size (by repeat (first | (with_reducible first | exact HB.out | apply below_alloc | apply pw_below_drewN | apply below_drew1 | refine below_set ?_ GE115.out | refine below_set ?_ GE116.out | refine below_set ?_ GE117.out) | exact HB.out))) : w.heap.size ≤ gb129)); have n8_ := Aside0.mk ((by rw [hg]; exact (below_size (by repeat (first | (with_reducible first | exact HB.out | apply below_alloc | apply pw_below_drewN | apply below_drew1 | refine below_set ?_ GE115.out | refine below_set ?_ GE116.out | refine below_set ?_ GE117.out) | exact HB.out))) : w.heap.size ≤ gb129)); have n9_ := Aside0.mk ((by rw [hg]; exact Nat.ne_of_lt (blk_lt (g := gb115) (o := .cells #[.int .i64 a0_0, .bool a0_1, .int .i64 a0_2, .bool a0_3, .bool a0_4, .bool a0_5, .bool a0_6, .int .i64 a0_7, .int .i64 a0_8, .slice A0_9 l0_9.length c0_9, .slice A0_10 l0_10.length c0_10, .slice A0_11 l0_11.length c0_11, .slice (some ad118) l0_12.length c0_12] 27 (0, 0)) (by (with_reducible repeat (first | refine blk_drewN ?_ _ | refine blk_drew ?_ | refine blk_alloc ?_ _)); exact BK115.out)) : gb115 ≠ gb129)); have n10_ := Aside0.mk ((by rw [hg]; exact Nat.ne_of_gt (blk_lt (g := gb115) (o := .cells #[.int .i64 a0_0, .bool a0_1, .int .i64 a0_2, .bool a0_3, .bool a0_4, .bool a0_5, .bool a0_6, .int .i64 a0_7, .int .i64 a0_8, .slice A0_9 l0_9.length c0_9, .slice A0_10 l0_10.length c0_10, .slice A0_11 l0_11.length c0_11, .slice (some ad118) l0_12.length c0_12] 27 (0, 0)) (by (with_reducible repeat (first | refine blk_drewN ?_ _ | refine blk_drew ?_ | refine blk_alloc ?_ _)); exact BK115.out)) : gb129 ≠ gb115)); have n11_ := Aside0.mk ((by rw [hg]; exact Nat.ne_of_lt (blk_lt (g := gb116) (o := .cells #[.int .i64 0, .int .i64 0, .int .i64 0, .bool false, .int .i64 0, .slice none 0 0] 49 (0, 0)) (by (with_reducible repeat (first | refine blk_drewN ?_ _ | refine blk_drew ?_ | refine blk_alloc ?_ _)); exact BK116.out)) : gb116 ≠ gb129)); have n12_ := Aside0.mk ((by rw [hg]; exact Nat.ne_of_gt (blk_lt (g := gb116) (o := .cells #[.int .i64 0, .int .i64 0, .int .i64 0, .bool false, .int .i64 0, .slice none 0 0] 49 (0, 0)) (by (with_reducible repeat (first | refine blk_drewN ?_ _ | refine blk_drew ?_ | refine blk_alloc ?_ _)); exact BK116.out)) : gb129 ≠ gb116)); have n13_ := Aside0.mk ((by rw [hg]; exact Nat.ne_of_lt (blk_lt (g := gb117) (o := .cells #[.int .i64 x118000_1, .int .i64 x118001_1, .int .i64 x118002_1, .bool x118003_1, .int .i64 x118004_1, u118005] 49 (0, 0)) (by (with_reducible repeat (first | refine blk_drewN ?_ _ | refine blk_drew ?_ | refine blk_alloc ?_ _)); exact BK117.out)) : gb117 ≠ gb129)); have n14_ := Aside0.mk ((by rw [hg]; exact Nat.ne_of_gt (blk_lt (g := gb117) (o := .cells #[.int .i64 x118000_1, .int .i64 x118001_1, .int .i64 x118002_1, .bool x118003_1, .int .i64 x118004_1, u118005] 49 (0, 0)) (by (with_reducible repeat (first | refine blk_drewN ?_ _ | refine blk_drew ?_ | refine blk_alloc ?_ _)); exact BK117.out)) : gb129 ≠ gb117)); clear HO_118005; clear HO127; clear BK115; clear BK116; clear BK117; clear HB; have HO_118005 := n0_; have HO127 := n1_; have BK115 := n2_; have BK116 := n3_; have BK117 := n4_; have HB := n5_; have BK129 := n6_; have GW129 := n7_; have GE129 := n8_; have NB115_129 := n9_; have NB129_115 := n10_; have NB116_129 := n11_; have NB129_116 := n12_; have NB117_129 := n13_; have NB129_117 := n14_; clear n0_ n1_ n2_ n3_ n4_ n5_ n6_ n7_ n8_ n9_ n10_ n11_ n12_ n13_ n14_; clear hb hbox hg; have hnb15 := NB129_115.out; have hnc15 := NB115_129.out; have hnb16 := NB129_116.out; have hnc16 := NB116_129.out; have hnb17 := NB129_117.out; have hnc17 := NB117_129.out; (try clear hcz78_0 hcz78_1 hcz78_2 hcz78_3 hcz78_4 hcz78_5 hfz78_0 hfz78_1 hfz78_2 hfz78_3 hfz78_4 hfz78_5); (try clear hcz79_0 hcz79_1 hcz79_2 hcz79_3 hcz79_4 hcz79_5 hfz79_0 hfz79_1 hfz79_2 hfz79_3 hfz79_4 hfz79_5); (try clear hcz82_0 hcz82_1 hcz82_2 hcz82_3 hcz82_4 hfz82_0 hfz82_1 hfz82_2 hfz82_3 hfz82_4); (try clear hcz84_0 hcz84_1 hcz84_2 hcz84_3 hcz84_4 hcz84_5 hfz84_0 hfz84_1 hfz84_2 hfz84_3 hfz84_4 hfz84_5); (try clear hcz85_0 hcz85_1 hcz85_2 hcz85_3 hcz85_4 hcz85_5 hfz85_0 hfz85_1 hfz85_2 hfz85_3 hfz85_4 hfz85_5); (try clear hcz12_0 hcz12_1 hcz12_2 hcz12_3 hcz12_4 hcz12_5 hcz12_6 hcz12_7 hcz12_8 hcz12_9 hcz12_10 hcz12_11 hcz12_12 hfz12_0 hfz12_1 hfz12_2 hfz12_3 hfz12_4 hfz12_5 hfz12_6 hfz12_7 hfz12_8 hfz12_9 hfz12_10 hfz12_11 hfz12_12); have hcz18_0 : w14.cell? ⟨gb129, 0, none⟩ = some (.int .i64 0) := (blk_cell BK129.out 0).trans rfl; have hcz18_1 : w14.cell? ⟨gb129, 1, none⟩ = some (.int .i64 0) := (blk_cell BK129.out 1).trans rfl; have hcz18_2 : w14.cell? ⟨gb129, 2, none⟩ = some (.int .i64 0) := (blk_cell BK129.out 2).trans rfl; have hcz18_3 : w14.cell? ⟨gb129, 3, none⟩ = some (.bool false) := (blk_cell BK129.out 3).trans rfl; have hcz18_4 : w14.cell? ⟨gb129, 4, none⟩ = some (.int .i64 0) := (blk_cell BK129.out 4).trans rfl; have hcz18_5 : w14.cell? ⟨gb129, 5, none⟩ = some (.slice none 0 0) := (blk_cell BK129.out 5).trans rfl; have hfz18_0 := blk_frozen BK129.out 0; have hfz18_1 := blk_frozen BK129.out 1; have hfz18_2 := blk_frozen BK129.out 2; have hfz18_3 := blk_frozen BK129.out 3; have hfz18_4 := blk_frozen BK129.out 4; have hfz18_5 := blk_frozen BK129.out 5; obtain ⟨Ao19, co19, eo19⟩ := Kd.R_slice HO127.out; subst eo19; have hnb20 := NB117_116.out; have hnc20 := NB116_117.out; (try clear hcz79_0 hcz79_1 hcz79_2 hcz79_3 hcz79_4 hcz79_5 hfz79_0 hfz79_1 hfz79_2 hfz79_3 hfz79_4 hfz79_5); (try clear hcz82_0 hcz82_1 hcz82_2 hcz82_3 hcz82_4 hfz82_0 hfz82_1 hfz82_2 hfz82_3 hfz82_4); (try clear hcz84_0 hcz84_1 hcz84_2 hcz84_3 hcz84_4 hcz84_5 hfz84_0 hfz84_1 hfz84_2 hfz84_3 hfz84_4 hfz84_5); (try clear hcz85_0 hcz85_1 hcz85_2 hcz85_3 hcz85_4 hcz85_5 hfz85_0 hfz85_1 hfz85_2 hfz85_3 hfz85_4 hfz85_5); (try clear hcz12_0 hcz12_1 hcz12_2 hcz12_3 hcz12_4 hcz12_5 hcz12_6 hcz12_7 hcz12_8 hcz12_9 hcz12_10 hcz12_11 hcz12_12 hfz12_0 hfz12_1 hfz12_2 hfz12_3 hfz12_4 hfz12_5 hfz12_6 hfz12_7 hfz12_8 hfz12_9 hfz12_10 hfz12_11 hfz12_12); have hcz21_0 : w14.cell? ⟨gb117, 0, none⟩ = some (.int .i64 x118000_1) := (blk_cell BK117.out 0).trans rfl; have hcz21_1 : w14.cell? ⟨gb117, 1, none⟩ = some (.int .i64 x118001_1) := (blk_cell BK117.out 1).trans rfl; have hcz21_2 : w14.cell? ⟨gb117, 2, none⟩ = some (.int .i64 x118002_1) := (blk_cell BK117.out 2).trans rfl; have hcz21_3 : w14.cell? ⟨gb117, 3, none⟩ = some (.bool x118003_1) := (blk_cell BK117.out 3).trans rfl; have hcz21_4 : w14.cell? ⟨gb117, 4, none⟩ = some (.int .i64 x118004_1) := (blk_cell BK117.out 4).trans rfl; have hcz21_5 : w14.cell? ⟨gb117, 5, none⟩ = some (u118005) := (blk_cell BK117.out 5).trans rfl; have hfz21_0 := blk_frozen BK117.out 0; have hfz21_1 := blk_frozen BK117.out 1; have hfz21_2 := blk_frozen BK117.out 2; have hfz21_3 := blk_frozen BK117.out 3; have hfz21_4 := blk_frozen BK117.out 4; have hfz21_5 := blk_frozen BK117.out 5))
              go_roundg k1
              case measure => have := HK1.out; omega
              case rel => exact ⟨(wrap64 (x4_1 + 1)), (wrap64 (x6_1 + 1)), (t120), (t121), (t122), (t123), (t124), (t125), (.slice Ao19 t125.length co19), (by first | rfl | (simp; done) | (simp [*]; done)), (by first | rfl | (simp; done) | (simp [*]; done)), H', ⟨by have := HK1.out; omega⟩, ⟨by (with_reducible repeat (first | apply Kd.R_alloc | apply Kd.R_drewN | apply Kd.R_drew)); exact Kd.R_mono (Kd.R_far (p := ⟨gb117, 5, none⟩) (Kd.R_far (p := ⟨gb117, 4, none⟩) (Kd.R_far (p := ⟨gb117, 3, none⟩) (Kd.R_far (p := ⟨gb117, 2, none⟩) (Kd.R_far (p := ⟨gb117, 1, none⟩) (Kd.R_far (p := ⟨gb117, 0, none⟩) (Kd.R_far (p := ⟨gb129, 5, none⟩) (Kd.R_far (p := ⟨gb129, 4, none⟩) (Kd.R_far (p := ⟨gb129, 3, none⟩) (Kd.R_far (p := ⟨gb129, 2, none⟩) (Kd.R_far (p := ⟨gb129, 1, none⟩) (Kd.R_far (p := ⟨gb129, 0, none⟩) (Kd.R_types (Kd.R_types HO127.out BK129.out (by decide)) BK117.out (by decide)) (fun _ hk => hk.1.2) (.int .i64 t120)) (fun _ hk => hk.1.2) (.int .i64 t121)) (fun _ hk => hk.1.2) (.int .i64 t122)) (fun _ hk => hk.1.2) (.bool t123)) (fun _ hk => hk.1.2) (.int .i64 t124)) (fun _ hk => hk.1.2) (.slice Ao19 t125.length co19)) (fun _ hk => hk.2) (.int .i64 t120)) (fun _ hk => hk.2) (.int .i64 t121)) (fun _ hk => hk.2) (.int .i64 t122)) (fun _ hk => hk.2) (.bool t123)) (fun _ hk => hk.2) (.int .i64 t124)) (fun _ hk => hk.2) (.slice Ao19 t125.length co19)) (fun _ hk => trivial)⟩, ⟨by (with_reducible repeat (first | refine blk_drewN ?_ _ | refine blk_drew ?_ | refine blk_alloc ?_ _)); refine blk_far ?_ NB115_117.out _; (with_reducible repeat (first | refine blk_drewN ?_ _ | refine blk_drew ?_ | refine blk_alloc ?_ _)); refine blk_far ?_ NB115_117.out _; (with_reducible repeat (first | refine blk_drewN ?_ _ | refine blk_drew ?_ | refine blk_alloc ?_ _)); refine blk_far ?_ NB115_117.out _; (with_reducible repeat (first | refine blk_drewN ?_ _ | refine blk_drew ?_ | refine blk_alloc ?_ _)); refine blk_far ?_ NB115_117.out _; (with_reducible repeat (first | refine blk_drewN ?_ _ | refine blk_drew ?_ | refine blk_alloc ?_ _)); refine blk_far ?_ NB115_117.out _; (with_reducible repeat (first | refine blk_drewN ?_ _ | refine blk_drew ?_ | refine blk_alloc ?_ _)); refine blk_far ?_ NB115_117.out _; (with_reducible repeat (first | refine blk_drewN ?_ _ | refine blk_drew ?_ | refine blk_alloc ?_ _)); refine blk_far ?_ NB115_129.out _; (with_reducible repeat (first | refine blk_drewN ?_ _ | refine blk_drew ?_ | refine blk_alloc ?_ _)); refine blk_far ?_ NB115_129.out _; (with_reducible repeat (first | refine blk_drewN ?_ _ | refine blk_drew ?_ | refine blk_alloc ?_ _)); refine blk_far ?_ NB115_129.out _; (with_reducible repeat (first | refine blk_drewN ?_ _ | refine blk_drew ?_ | refine blk_alloc ?_ _)); refine blk_far ?_ NB115_129.out _; (with_reducible repeat (first | refine blk_drewN ?_ _ | refine blk_drew ?_ | refine blk_alloc ?_ _)); refine blk_far ?_ NB115_129.out _; (with_reducible repeat (first | refine blk_drewN ?_ _ | refine blk_drew ?_ | refine blk_alloc ?_ _)); refine blk_far ?_ NB115_129.out _; (with_reducible repeat (first | refine blk_drewN ?_ _ | refine blk_drew ?_ | refine blk_alloc ?_ _)); exact BK115.out⟩, ⟨by (with_reducible repeat (first | refine blk_drewN ?_ _ | refine blk_drew ?_ | refine blk_alloc ?_ _)); refine blk_far ?_ NB116_117.out _; (with_reducible repeat (first | refine blk_drewN ?_ _ | refine blk_drew ?_ | refine blk_alloc ?_ _)); refine blk_far ?_ NB116_117.out _; (with_reducible repeat (first | refine blk_drewN ?_ _ | refine blk_drew ?_ | refine blk_alloc ?_ _)); refine blk_far ?_ NB116_117.out _; (with_reducible repeat (first | refine blk_drewN ?_ _ | refine blk_drew ?_ | refine blk_alloc ?_ _)); refine blk_far ?_ NB116_117.out _; (with_reducible repeat (first | refine blk_drewN ?_ _ | refine blk_drew ?_ | refine blk_alloc ?_ _)); refine blk_far ?_ NB116_117.out _; (with_reducible repeat (first | refine blk_drewN ?_ _ | refine blk_drew ?_ | refine blk_alloc ?_ _)); refine blk_far ?_ NB116_117.out _; (with_reducible repeat (first | refine blk_drewN ?_ _ | refine blk_drew ?_ | refine blk_alloc ?_ _)); refine blk_far ?_ NB116_129.out _; (with_reducible repeat (first | refine blk_drewN ?_ _ | refine blk_drew ?_ | refine blk_alloc ?_ _)); refine blk_far ?_ NB116_129.out _; (with_reducible repeat (first | refine blk_drewN ?_ _ | refine blk_drew ?_ | refine blk_alloc ?_ _)); refine blk_far ?_ NB116_129.out _; (with_reducible repeat (first | refine blk_drewN ?_ _ | refine blk_drew ?_ | refine blk_alloc ?_ _)); refine blk_far ?_ NB116_129.out _; (with_reducible repeat (first | refine blk_drewN ?_ _ | refine blk_drew ?_ | refine blk_alloc ?_ _)); refine blk_far ?_ NB116_129.out _; (with_reducible repeat (first | refine blk_drewN ?_ _ | refine blk_drew ?_ | refine blk_alloc ?_ _)); refine blk_far ?_ NB116_129.out _; (with_reducible repeat (first | refine blk_drewN ?_ _ | refine blk_drew ?_ | refine blk_alloc ?_ _)); exact BK116.out⟩, ⟨by (with_reducible repeat (first | refine blk_drewN ?_ _ | refine blk_drew ?_ | refine blk_alloc ?_ _)); refine blk_put (cs := #[.int .i64 t120, .int .i64 t121, .int .i64 t122, .bool t123, .int .i64 t124, u118005]) ?_ 5 _ rfl; (with_reducible repeat (first | refine blk_drewN ?_ _ | refine blk_drew ?_ | refine blk_alloc ?_ _)); refine blk_put (cs := #[.int .i64 t120, .int .i64 t121, .int .i64 t122, .bool t123, .int .i64 x118004_1, u118005]) ?_ 4 _ rfl; (with_reducible repeat (first | refine blk_drewN ?_ _ | refine blk_drew ?_ | refine blk_alloc ?_ _)); refine blk_put (cs := #[.int .i64 t120, .int .i64 t121, .int .i64 t122, .bool x118003_1, .int .i64 x118004_1, u118005]) ?_ 3 _ rfl; (with_reducible repeat (first | refine blk_drewN ?_ _ | refine blk_drew ?_ | refine blk_alloc ?_ _)); refine blk_put (cs := #[.int .i64 t120, .int .i64 t121, .int .i64 x118002_1, .bool x118003_1, .int .i64 x118004_1, u118005]) ?_ 2 _ rfl; (with_reducible repeat (first | refine blk_drewN ?_ _ | refine blk_drew ?_ | refine blk_alloc ?_ _)); refine blk_put (cs := #[.int .i64 t120, .int .i64 x118001_1, .int .i64 x118002_1, .bool x118003_1, .int .i64 x118004_1, u118005]) ?_ 1 _ rfl; (with_reducible repeat (first | refine blk_drewN ?_ _ | refine blk_drew ?_ | refine blk_alloc ?_ _)); refine blk_put (cs := #[.int .i64 x118000_1, .int .i64 x118001_1, .int .i64 x118002_1, .bool x118003_1, .int .i64 x118004_1, u118005]) ?_ 0 _ rfl; (with_reducible repeat (first | refine blk_drewN ?_ _ | refine blk_drew ?_ | refine blk_alloc ?_ _)); refine blk_far ?_ NB117_129.out _; (with_reducible repeat (first | refine blk_drewN ?_ _ | refine blk_drew ?_ | refine blk_alloc ?_ _)); refine blk_far ?_ NB117_129.out _; (with_reducible repeat (first | refine blk_drewN ?_ _ | refine blk_drew ?_ | refine blk_alloc ?_ _)); refine blk_far ?_ NB117_129.out _; (with_reducible repeat (first | refine blk_drewN ?_ _ | refine blk_drew ?_ | refine blk_alloc ?_ _)); refine blk_far ?_ NB117_129.out _; (with_reducible repeat (first | refine blk_drewN ?_ _ | refine blk_drew ?_ | refine blk_alloc ?_ _)); refine blk_far ?_ NB117_129.out _; (with_reducible repeat (first | refine blk_drewN ?_ _ | refine blk_drew ?_ | refine blk_alloc ?_ _)); refine blk_far ?_ NB117_129.out _; (with_reducible repeat (first | refine blk_drewN ?_ _ | refine blk_drew ?_ | refine blk_alloc ?_ _)); exact BK117.out⟩, ⟨by repeat (first | (with_reducible first | exact HB.out | apply below_alloc | apply pw_below_drewN | apply below_drew1 | refine below_set ?_ GE115.out | refine below_set ?_ GE116.out | refine below_set ?_ GE117.out | refine below_set ?_ GE129.out) | exact HB.out)⟩⟩
            · rw [if_neg c8] at H
              have c8b0 : (x4_1 == 0) = false := beq_eq_false_iff_ne.mpr c8
              have c8b1 : (x4_1 != 0) = true := bne_iff_ne.mpr c8
              have H' := Aside0.mk H
              clear H
              have hnb22 := NB115_116.out
              have hnc22 := NB116_115.out
              have hnb23 := NB115_117.out
              have hnc23 := NB117_115.out
              (try clear hcz18_0 hcz18_1 hcz18_2 hcz18_3 hcz18_4 hcz18_5 hfz18_0 hfz18_1 hfz18_2 hfz18_3 hfz18_4 hfz18_5)
              (try clear hcz21_0 hcz21_1 hcz21_2 hcz21_3 hcz21_4 hcz21_5 hfz21_0 hfz21_1 hfz21_2 hfz21_3 hfz21_4 hfz21_5)
              have hcz24_0 : wr.cell? ⟨gb115, 0, none⟩ = some (.int .i64 a0_0) := (blk_cell BK115.out 0).trans rfl
              have hcz24_1 : wr.cell? ⟨gb115, 1, none⟩ = some (.bool a0_1) := (blk_cell BK115.out 1).trans rfl
              have hcz24_2 : wr.cell? ⟨gb115, 2, none⟩ = some (.int .i64 a0_2) := (blk_cell BK115.out 2).trans rfl
              have hcz24_3 : wr.cell? ⟨gb115, 3, none⟩ = some (.bool a0_3) := (blk_cell BK115.out 3).trans rfl
              have hcz24_4 : wr.cell? ⟨gb115, 4, none⟩ = some (.bool a0_4) := (blk_cell BK115.out 4).trans rfl
              have hcz24_5 : wr.cell? ⟨gb115, 5, none⟩ = some (.bool a0_5) := (blk_cell BK115.out 5).trans rfl
              have hcz24_6 : wr.cell? ⟨gb115, 6, none⟩ = some (.bool a0_6) := (blk_cell BK115.out 6).trans rfl
              have hcz24_7 : wr.cell? ⟨gb115, 7, none⟩ = some (.int .i64 a0_7) := (blk_cell BK115.out 7).trans rfl
              have hcz24_8 : wr.cell? ⟨gb115, 8, none⟩ = some (.int .i64 a0_8) := (blk_cell BK115.out 8).trans rfl
              have hcz24_9 : wr.cell? ⟨gb115, 9, none⟩ = some (.slice A0_9 l0_9.length c0_9) := (blk_cell BK115.out 9).trans rfl
              have hcz24_10 : wr.cell? ⟨gb115, 10, none⟩ = some (.slice A0_10 l0_10.length c0_10) := (blk_cell BK115.out 10).trans rfl
              have hcz24_11 : wr.cell? ⟨gb115, 11, none⟩ = some (.slice A0_11 l0_11.length c0_11) := (blk_cell BK115.out 11).trans rfl
              have hcz24_12 : wr.cell? ⟨gb115, 12, none⟩ = some (.slice A0_12 l0_12.length c0_12) := (blk_cell BK115.out 12).trans rfl
              have hfz24_0 := blk_frozen BK115.out 0
              have hfz24_1 := blk_frozen BK115.out 1
              have hfz24_2 := blk_frozen BK115.out 2
              have hfz24_3 := blk_frozen BK115.out 3
              have hfz24_4 := blk_frozen BK115.out 4
              have hfz24_5 := blk_frozen BK115.out 5
              have hfz24_6 := blk_frozen BK115.out 6
              have hfz24_7 := blk_frozen BK115.out 7
              have hfz24_8 := blk_frozen BK115.out 8
              have hfz24_9 := blk_frozen BK115.out 9
              have hfz24_10 := blk_frozen BK115.out 10
              have hfz24_11 := blk_frozen BK115.out 11
              have hfz24_12 := blk_frozen BK115.out 12
              have p118 : 0 ≤ (x6_1 : Int) := of_decide_eq_true (by first | (with_reducible assumption) | assumption)
              have q118 : x6_1 < (l0_12.length : Int) := of_decide_eq_true (by first | (with_reducible assumption) | assumption)
              obtain ⟨ad118, e118, hx118_0, hx118_1, hx118_2, hx118_3, hx118_4⟩ := at_T53 HR0_12.out x6_1 p118 q118
              cases e118
              replace hx118_0 := (HB.out.cell (World.block_lt_of_cell? w _ hx118_0)).trans hx118_0
              replace hx118_1 := (HB.out.cell (World.block_lt_of_cell? w _ hx118_1)).trans hx118_1
              replace hx118_2 := (HB.out.cell (World.block_lt_of_cell? w _ hx118_2)).trans hx118_2
              replace hx118_3 := (HB.out.cell (World.block_lt_of_cell? w _ hx118_3)).trans hx118_3
              replace hx118_4 := (HB.out.cell (World.block_lt_of_cell? w _ hx118_4)).trans hx118_4
              replace p118 := eq_true p118
              replace q118 := eq_true q118
              go_wp2
              go_roundg k1
              case measure => have := HK1.out; omega
              case rel => exact ⟨(wrap64 (x4_1 + 1)), (wrap64 (x6_1 + 1)), (x118000_1), (x118001_1), (x118002_1), (x118003_1), (x118004_1), (x118005_1), (u118005), (by first | rfl | (simp; done) | (simp [*]; done)), (by first | rfl | (simp; done) | (simp [*]; done)), H', ⟨by have := HK1.out; omega⟩, ⟨by (with_reducible repeat (first | apply Kd.R_alloc | apply Kd.R_drewN | apply Kd.R_drew)); exact HO_118005.out⟩, ⟨by (with_reducible repeat (first | refine blk_drewN ?_ _ | refine blk_drew ?_ | refine blk_alloc ?_ _)); exact BK115.out⟩, ⟨by (with_reducible repeat (first | refine blk_drewN ?_ _ | refine blk_drew ?_ | refine blk_alloc ?_ _)); exact BK116.out⟩, ⟨by (with_reducible repeat (first | refine blk_drewN ?_ _ | refine blk_drew ?_ | refine blk_alloc ?_ _)); exact BK117.out⟩, ⟨by repeat (first | (with_reducible first | exact HB.out | apply below_alloc | apply pw_below_drewN | apply below_drew1 | refine below_set ?_ GE115.out | refine below_set ?_ GE116.out | refine below_set ?_ GE117.out) | exact HB.out)⟩⟩
          · rw [if_neg c7] at H
            have c7b0 : (((rd_T53 l0_12 x6_1).f1) == 41) = false := beq_eq_false_iff_ne.mpr c7
            have c7b1 : (((rd_T53 l0_12 x6_1).f1) != 41) = true := bne_iff_ne.mpr c7
            have H' := Aside0.mk H
            clear H
            have hnb25 := NB115_116.out
            have hnc25 := NB116_115.out
            have hnb26 := NB115_117.out
            have hnc26 := NB117_115.out
            (try clear hcz18_0 hcz18_1 hcz18_2 hcz18_3 hcz18_4 hcz18_5 hfz18_0 hfz18_1 hfz18_2 hfz18_3 hfz18_4 hfz18_5)
            (try clear hcz21_0 hcz21_1 hcz21_2 hcz21_3 hcz21_4 hcz21_5 hfz21_0 hfz21_1 hfz21_2 hfz21_3 hfz21_4 hfz21_5)
            have hcz27_0 : wr.cell? ⟨gb115, 0, none⟩ = some (.int .i64 a0_0) := (blk_cell BK115.out 0).trans rfl
            have hcz27_1 : wr.cell? ⟨gb115, 1, none⟩ = some (.bool a0_1) := (blk_cell BK115.out 1).trans rfl
            have hcz27_2 : wr.cell? ⟨gb115, 2, none⟩ = some (.int .i64 a0_2) := (blk_cell BK115.out 2).trans rfl
            have hcz27_3 : wr.cell? ⟨gb115, 3, none⟩ = some (.bool a0_3) := (blk_cell BK115.out 3).trans rfl
            have hcz27_4 : wr.cell? ⟨gb115, 4, none⟩ = some (.bool a0_4) := (blk_cell BK115.out 4).trans rfl
            have hcz27_5 : wr.cell? ⟨gb115, 5, none⟩ = some (.bool a0_5) := (blk_cell BK115.out 5).trans rfl
            have hcz27_6 : wr.cell? ⟨gb115, 6, none⟩ = some (.bool a0_6) := (blk_cell BK115.out 6).trans rfl
            have hcz27_7 : wr.cell? ⟨gb115, 7, none⟩ = some (.int .i64 a0_7) := (blk_cell BK115.out 7).trans rfl
            have hcz27_8 : wr.cell? ⟨gb115, 8, none⟩ = some (.int .i64 a0_8) := (blk_cell BK115.out 8).trans rfl
            have hcz27_9 : wr.cell? ⟨gb115, 9, none⟩ = some (.slice A0_9 l0_9.length c0_9) := (blk_cell BK115.out 9).trans rfl
            have hcz27_10 : wr.cell? ⟨gb115, 10, none⟩ = some (.slice A0_10 l0_10.length c0_10) := (blk_cell BK115.out 10).trans rfl
            have hcz27_11 : wr.cell? ⟨gb115, 11, none⟩ = some (.slice A0_11 l0_11.length c0_11) := (blk_cell BK115.out 11).trans rfl
            have hcz27_12 : wr.cell? ⟨gb115, 12, none⟩ = some (.slice A0_12 l0_12.length c0_12) := (blk_cell BK115.out 12).trans rfl
            have hfz27_0 := blk_frozen BK115.out 0
            have hfz27_1 := blk_frozen BK115.out 1
            have hfz27_2 := blk_frozen BK115.out 2
            have hfz27_3 := blk_frozen BK115.out 3
            have hfz27_4 := blk_frozen BK115.out 4
            have hfz27_5 := blk_frozen BK115.out 5
            have hfz27_6 := blk_frozen BK115.out 6
            have hfz27_7 := blk_frozen BK115.out 7
            have hfz27_8 := blk_frozen BK115.out 8
            have hfz27_9 := blk_frozen BK115.out 9
            have hfz27_10 := blk_frozen BK115.out 10
            have hfz27_11 := blk_frozen BK115.out 11
            have hfz27_12 := blk_frozen BK115.out 12
            have p118 : 0 ≤ (x6_1 : Int) := of_decide_eq_true (by first | (with_reducible assumption) | assumption)
            have q118 : x6_1 < (l0_12.length : Int) := of_decide_eq_true (by first | (with_reducible assumption) | assumption)
            obtain ⟨ad118, e118, hx118_0, hx118_1, hx118_2, hx118_3, hx118_4⟩ := at_T53 HR0_12.out x6_1 p118 q118
            cases e118
            replace hx118_0 := (HB.out.cell (World.block_lt_of_cell? w _ hx118_0)).trans hx118_0
            replace hx118_1 := (HB.out.cell (World.block_lt_of_cell? w _ hx118_1)).trans hx118_1
            replace hx118_2 := (HB.out.cell (World.block_lt_of_cell? w _ hx118_2)).trans hx118_2
            replace hx118_3 := (HB.out.cell (World.block_lt_of_cell? w _ hx118_3)).trans hx118_3
            replace hx118_4 := (HB.out.cell (World.block_lt_of_cell? w _ hx118_4)).trans hx118_4
            replace p118 := eq_true p118
            replace q118 := eq_true q118
            go_wp2
            go_roundg k1
            case measure => have := HK1.out; omega
            case rel => exact ⟨(x4_1), (wrap64 (x6_1 + 1)), (x118000_1), (x118001_1), (x118002_1), (x118003_1), (x118004_1), (x118005_1), (u118005), (by first | rfl | (simp; done) | (simp [*]; done)), (by first | rfl | (simp; done) | (simp [*]; done)), H', ⟨by have := HK1.out; omega⟩, ⟨by (with_reducible repeat (first | apply Kd.R_alloc | apply Kd.R_drewN | apply Kd.R_drew)); exact HO_118005.out⟩, ⟨by (with_reducible repeat (first | refine blk_drewN ?_ _ | refine blk_drew ?_ | refine blk_alloc ?_ _)); exact BK115.out⟩, ⟨by (with_reducible repeat (first | refine blk_drewN ?_ _ | refine blk_drew ?_ | refine blk_alloc ?_ _)); exact BK116.out⟩, ⟨by (with_reducible repeat (first | refine blk_drewN ?_ _ | refine blk_drew ?_ | refine blk_alloc ?_ _)); exact BK117.out⟩, ⟨by repeat (first | (with_reducible first | exact HB.out | apply below_alloc | apply pw_below_drewN | apply below_drew1 | refine below_set ?_ GE115.out | refine below_set ?_ GE116.out | refine below_set ?_ GE117.out) | exact HB.out)⟩⟩
        · rw [if_neg c6] at H
          exact absurd H (by simp)
      · rw [if_neg c5] at H
        have c5b0 : decide (x6_1 < (l0_12.length : Int)) = false := decide_eq_false c5
        clear c5
        simp only [Option.some.injEq, Prod.mk.injEq] at H
        obtain ⟨rfl, rfl, rfl, rfl, rfl, rfl, rfl⟩ := H
        have hnb28 := NB115_116.out
        have hnc28 := NB116_115.out
        have hnb29 := NB115_117.out
        have hnc29 := NB117_115.out
        (try clear hcz18_0 hcz18_1 hcz18_2 hcz18_3 hcz18_4 hcz18_5 hfz18_0 hfz18_1 hfz18_2 hfz18_3 hfz18_4 hfz18_5)
        (try clear hcz21_0 hcz21_1 hcz21_2 hcz21_3 hcz21_4 hcz21_5 hfz21_0 hfz21_1 hfz21_2 hfz21_3 hfz21_4 hfz21_5)
        have hcz30_0 : wr.cell? ⟨gb115, 0, none⟩ = some (.int .i64 a0_0) := (blk_cell BK115.out 0).trans rfl
        have hcz30_1 : wr.cell? ⟨gb115, 1, none⟩ = some (.bool a0_1) := (blk_cell BK115.out 1).trans rfl
        have hcz30_2 : wr.cell? ⟨gb115, 2, none⟩ = some (.int .i64 a0_2) := (blk_cell BK115.out 2).trans rfl
        have hcz30_3 : wr.cell? ⟨gb115, 3, none⟩ = some (.bool a0_3) := (blk_cell BK115.out 3).trans rfl
        have hcz30_4 : wr.cell? ⟨gb115, 4, none⟩ = some (.bool a0_4) := (blk_cell BK115.out 4).trans rfl
        have hcz30_5 : wr.cell? ⟨gb115, 5, none⟩ = some (.bool a0_5) := (blk_cell BK115.out 5).trans rfl
        have hcz30_6 : wr.cell? ⟨gb115, 6, none⟩ = some (.bool a0_6) := (blk_cell BK115.out 6).trans rfl
        have hcz30_7 : wr.cell? ⟨gb115, 7, none⟩ = some (.int .i64 a0_7) := (blk_cell BK115.out 7).trans rfl
        have hcz30_8 : wr.cell? ⟨gb115, 8, none⟩ = some (.int .i64 a0_8) := (blk_cell BK115.out 8).trans rfl
        have hcz30_9 : wr.cell? ⟨gb115, 9, none⟩ = some (.slice A0_9 l0_9.length c0_9) := (blk_cell BK115.out 9).trans rfl
        have hcz30_10 : wr.cell? ⟨gb115, 10, none⟩ = some (.slice A0_10 l0_10.length c0_10) := (blk_cell BK115.out 10).trans rfl
        have hcz30_11 : wr.cell? ⟨gb115, 11, none⟩ = some (.slice A0_11 l0_11.length c0_11) := (blk_cell BK115.out 11).trans rfl
        have hcz30_12 : wr.cell? ⟨gb115, 12, none⟩ = some (.slice A0_12 l0_12.length c0_12) := (blk_cell BK115.out 12).trans rfl
        have hfz30_0 := blk_frozen BK115.out 0
        have hfz30_1 := blk_frozen BK115.out 1
        have hfz30_2 := blk_frozen BK115.out 2
        have hfz30_3 := blk_frozen BK115.out 3
        have hfz30_4 := blk_frozen BK115.out 4
        have hfz30_5 := blk_frozen BK115.out 5
        have hfz30_6 := blk_frozen BK115.out 6
        have hfz30_7 := blk_frozen BK115.out 7
        have hfz30_8 := blk_frozen BK115.out 8
        have hfz30_9 := blk_frozen BK115.out 9
        have hfz30_10 := blk_frozen BK115.out 10
        have hfz30_11 := blk_frozen BK115.out 11
        have hfz30_12 := blk_frozen BK115.out 12
        have hnb31 := NB117_116.out
        have hnc31 := NB116_117.out
        (try clear hcz18_0 hcz18_1 hcz18_2 hcz18_3 hcz18_4 hcz18_5 hfz18_0 hfz18_1 hfz18_2 hfz18_3 hfz18_4 hfz18_5)
        (try clear hcz21_0 hcz21_1 hcz21_2 hcz21_3 hcz21_4 hcz21_5 hfz21_0 hfz21_1 hfz21_2 hfz21_3 hfz21_4 hfz21_5)
        have hcz32_0 : wr.cell? ⟨gb117, 0, none⟩ = some (.int .i64 x118000_1) := (blk_cell BK117.out 0).trans rfl
        have hcz32_1 : wr.cell? ⟨gb117, 1, none⟩ = some (.int .i64 x118001_1) := (blk_cell BK117.out 1).trans rfl
        have hcz32_2 : wr.cell? ⟨gb117, 2, none⟩ = some (.int .i64 x118002_1) := (blk_cell BK117.out 2).trans rfl
        have hcz32_3 : wr.cell? ⟨gb117, 3, none⟩ = some (.bool x118003_1) := (blk_cell BK117.out 3).trans rfl
        have hcz32_4 : wr.cell? ⟨gb117, 4, none⟩ = some (.int .i64 x118004_1) := (blk_cell BK117.out 4).trans rfl
        have hcz32_5 : wr.cell? ⟨gb117, 5, none⟩ = some (u118005) := (blk_cell BK117.out 5).trans rfl
        have hfz32_0 := blk_frozen BK117.out 0
        have hfz32_1 := blk_frozen BK117.out 1
        have hfz32_2 := blk_frozen BK117.out 2
        have hfz32_3 := blk_frozen BK117.out 3
        have hfz32_4 := blk_frozen BK117.out 4
        have hfz32_5 := blk_frozen BK117.out 5
        (try clear hcz18_0 hcz18_1 hcz18_2 hcz18_3 hcz18_4 hcz18_5 hfz18_0 hfz18_1 hfz18_2 hfz18_3 hfz18_4 hfz18_5)
        (try clear hcz21_0 hcz21_1 hcz21_2 hcz21_3 hcz21_4 hcz21_5 hfz21_0 hfz21_1 hfz21_2 hfz21_3 hfz21_4 hfz21_5)
        have hcz33_0 : wr.cell? ⟨gb116, 0, none⟩ = some (.int .i64 0) := (blk_cell BK116.out 0).trans rfl
        have hcz33_1 : wr.cell? ⟨gb116, 1, none⟩ = some (.int .i64 0) := (blk_cell BK116.out 1).trans rfl
        have hcz33_2 : wr.cell? ⟨gb116, 2, none⟩ = some (.int .i64 0) := (blk_cell BK116.out 2).trans rfl
        have hcz33_3 : wr.cell? ⟨gb116, 3, none⟩ = some (.bool false) := (blk_cell BK116.out 3).trans rfl
        have hcz33_4 : wr.cell? ⟨gb116, 4, none⟩ = some (.int .i64 0) := (blk_cell BK116.out 4).trans rfl
        have hcz33_5 : wr.cell? ⟨gb116, 5, none⟩ = some (.slice none 0 0) := (blk_cell BK116.out 5).trans rfl
        have hfz33_0 := blk_frozen BK116.out 0
        have hfz33_1 := blk_frozen BK116.out 1
        have hfz33_2 := blk_frozen BK116.out 2
        have hfz33_3 := blk_frozen BK116.out 3
        have hfz33_4 := blk_frozen BK116.out 4
        have hfz33_5 := blk_frozen BK116.out 5
        obtain ⟨Ao34, co34, eo34⟩ := Kd.R_slice HO_118005.out
        subst eo34
        go_wp2
        refine bodyPost_ret (results_ct rfl _ _ gb116 49 #[.int .i64 x118000_1, .int .i64 x118001_1, .int .i64 x118002_1, .bool x118003_1, .int .i64 x118004_1, .slice Ao34 x118005_1.length co34] (0, 0) _ rfl (by (with_reducible repeat (first | refine blk_drewN ?_ _ | refine blk_drew ?_ | refine blk_alloc ?_ _)); refine blk_put (cs := #[.int .i64 x118000_1, .int .i64 x118001_1, .int .i64 x118002_1, .bool x118003_1, .int .i64 x118004_1, .slice none 0 0]) ?_ 5 _ rfl; (with_reducible repeat (first | refine blk_drewN ?_ _ | refine blk_drew ?_ | refine blk_alloc ?_ _)); refine blk_put (cs := #[.int .i64 x118000_1, .int .i64 x118001_1, .int .i64 x118002_1, .bool x118003_1, .int .i64 0, .slice none 0 0]) ?_ 4 _ rfl; (with_reducible repeat (first | refine blk_drewN ?_ _ | refine blk_drew ?_ | refine blk_alloc ?_ _)); refine blk_put (cs := #[.int .i64 x118000_1, .int .i64 x118001_1, .int .i64 x118002_1, .bool false, .int .i64 0, .slice none 0 0]) ?_ 3 _ rfl; (with_reducible repeat (first | refine blk_drewN ?_ _ | refine blk_drew ?_ | refine blk_alloc ?_ _)); refine blk_put (cs := #[.int .i64 x118000_1, .int .i64 x118001_1, .int .i64 0, .bool false, .int .i64 0, .slice none 0 0]) ?_ 2 _ rfl; (with_reducible repeat (first | refine blk_drewN ?_ _ | refine blk_drew ?_ | refine blk_alloc ?_ _)); refine blk_put (cs := #[.int .i64 x118000_1, .int .i64 0, .int .i64 0, .bool false, .int .i64 0, .slice none 0 0]) ?_ 1 _ rfl; (with_reducible repeat (first | refine blk_drewN ?_ _ | refine blk_drew ?_ | refine blk_alloc ?_ _)); refine blk_put (cs := #[.int .i64 0, .int .i64 0, .int .i64 0, .bool false, .int .i64 0, .slice none 0 0]) ?_ 0 _ rfl; (with_reducible repeat (first | refine blk_drewN ?_ _ | refine blk_drew ?_ | refine blk_alloc ?_ _)); exact BK116.out) Try.underlying49 rfl (by kernel_rfl)) rfl ?_
        exact ⟨_, by first | rfl | (simp [errW_none, errW_some] <;> rfl) | (simp [*, errW_none, errW_some] <;> rfl), by (with_reducible repeat (first | apply Kd.R_alloc | apply Kd.R_drewN | apply Kd.R_drew)); exact Kd.R_mono (Kd.R_far (p := ⟨gb116, 5, none⟩) (Kd.R_far (p := ⟨gb116, 4, none⟩) (Kd.R_far (p := ⟨gb116, 3, none⟩) (Kd.R_far (p := ⟨gb116, 2, none⟩) (Kd.R_far (p := ⟨gb116, 1, none⟩) (Kd.R_far (p := ⟨gb116, 0, none⟩) (Kd.R_types HO_118005.out BK116.out (by decide)) (fun _ hk => hk.2) (.int .i64 x118000_1)) (fun _ hk => hk.2) (.int .i64 x118001_1)) (fun _ hk => hk.2) (.int .i64 x118002_1)) (fun _ hk => hk.2) (.bool x118003_1)) (fun _ hk => hk.2) (.int .i64 x118004_1)) (fun _ hk => hk.2) (.slice Ao34 x118005_1.length co34)) (fun _ hk => trivial), by repeat (first | (with_reducible first | exact HB.out | apply below_alloc | apply pw_below_drewN | apply below_drew1 | refine below_set ?_ GE115.out | refine below_set ?_ GE116.out | refine below_set ?_ GE117.out) | exact HB.out)⟩

end Go.Proofs.Ytjklgdpffmaamaa.PGo

namespace Go.Proofs.Ytjklgdpffmaamaa.OptAny
open Go.RowKit Go.PlainAid Go.Proofs.Ytjklgdpffmaamaa.Base Go.Proofs.Ytjklgdpffmaamaa.Oct Go.Proofs.Ytjklgdpffmaamaa.Nm Go.Proofs.Ytjklgdpffmaamaa.Pu Go.Proofs.Ytjklgdpffmaamaa.Pad Go.Proofs.Ytjklgdpffmaamaa.Hd Go.Proofs.Ytjklgdpffmaamaa.Wr Go.Proofs.Ytjklgdpffmaamaa.OptOne
open Go.Proofs.Ytjklgdpffmaamaa.PGo (wimpleref1_Num.f wimpleref1_Num.l0 wimpleref1_Num.j0 wimpleref4_GetOpt.f wimpleref4_GetOpt.l0 wimpleref4_GetOpt.j0 wimpleref4_short.f wimpleref4_wide.f wimpleref4_FindOpt.f wimpleref4_FindOpt.l0 S55 S53 S40 rd_T53)
open Go.Proofs.YtjklgdpffmaamaaW.PrintWords (Ev bytesOf bytesOf_length LeO)
set_option linter.unusedVariables false
abbrev G := Int × Int × Int × Bool × Int × List S55 × Int
theorem num_any {s : ByteArray} {i : Nat} (hs : s.size ≤ 1000000) (hi : i ≤ s.size) : (i + 2 ≤ s.size ∧ Ev (fun k => wimpleref1_Num.f k s (i : Int) 2) (be2 s i, ((i + 2 : Nat) : Int), 0)) ∨ Ev (fun k => wimpleref1_Num.f k s (i : Int) 2) (0, 0, 300) := by
  by_cases h : i + 2 ≤ s.size
  · exact .inl ⟨h, rnum2 hs h⟩
  · exact .inr (rn_cut hs (by decide) (by decide) (by omega))
theorem be2_range (s : ByteArray) (i : Nat) : 0 ≤ be2 s i ∧ be2 s i ≤ 65535 := by
  have r0 := bt_nonneg s i
  have r1 := bt_le s i
  have r2 := bt_nonneg s (i + 1)
  have r3 := bt_le s (i + 1)
  unfold be2; omega
theorem loop_any (s n : ByteArray) (hs : s.size ≤ 1000000) (t c l a b e z : Int) (dd : Bool) : ∀ (d i : Nat), s.size - i ≤ d → i ≤ s.size → ∀ acc : List S55, acc.length ≤ i →
    ∃ r : G, Ev (fun k => wimpleref4_GetOpt.l0 k (i : Int) n t c l s a b e dd z acc) r ∧ (r.1 = a ∨ r.1 = 0) := by
  intro d
  induction d with
  | zero =>
    intro i hd hi acc ha
    exact ⟨(a, b, e, dd, z, acc, 0), Ev.step (fun k => by rw [wimpleref4_GetOpt.l0]) (Ev.neg (by omega) (Ev.some _ fun _ => rfl)), .inl rfl⟩
  | succ d ih =>
    intro i hd hi acc ha
    by_cases he : i = s.size
    · exact ⟨(a, b, e, dd, z, acc, 0), Ev.step (fun k => by rw [wimpleref4_GetOpt.l0]) (Ev.neg (by omega) (Ev.some _ fun _ => rfl)), .inl rfl⟩
    rcases num_any hs hi with ⟨h2, n0⟩ | n0
    · rcases num_any hs h2 with ⟨h4, n2⟩ | n2
      · have hr := be2_range s (i + 2)
        obtain ⟨q, hq⟩ := Int.eq_ofNat_of_zero_le hr.1
        rw [hq] at n2 hr
        by_cases hw : q ≤ s.size - (i + 4)
        · obtain ⟨r, hr1, hr2⟩ := ih (i + 4 + q) (by omega) (by omega) (acc ++ [⟨be2 s i, s.extract (i + 4) (i + 4 + q)⟩]) (by rw [List.length_append]; simp; omega)
          refine ⟨r, Ev.step (fun k => by rw [wimpleref4_GetOpt.l0]) (Ev.pos (by omega) ?_), hr2⟩
          refine Ev.bind n0 ?_
          dsimp only
          refine Ev.bind n2 ?_
          dsimp only
          refine Ev.pos rfl (Ev.pos rfl (Ev.neg (by rw [Pu.w64 (by omega) (by omega)]; omega) ?_))
          rw [Pu.w64 (x := ((i + 2 + 2 : Nat) : Int) + (q : Int)) (by omega) (by omega)]
          refine Ev.pos (by omega) (Ev.pos (by omega) (Ev.pos (by omega) (Ev.pos (by omega) ?_)))
          rw [show (((i + 2 + 2 : Nat) : Int)).toNat = i + 4 by omega, show (((i + 2 + 2 : Nat) : Int) + (q : Int)).toNat = i + 4 + q by omega, show ((i + 2 + 2 : Nat) : Int) + (q : Int) = ((i + 4 + q : Nat) : Int) by omega]
          exact hr1
        · refine ⟨(0, 0, 0, false, 0, [], 800), Ev.step (fun k => by rw [wimpleref4_GetOpt.l0]) (Ev.pos (by omega) ?_), .inr rfl⟩
          refine Ev.bind n0 ?_
          dsimp only
          refine Ev.bind n2 ?_
          dsimp only
          exact Ev.pos rfl (Ev.pos rfl (Ev.pos (by rw [Pu.w64 (by omega) (by omega)]; omega) (Ev.some _ fun _ => rfl)))
      · refine ⟨(0, 0, 0, false, 0, [], 800), Ev.step (fun k => by rw [wimpleref4_GetOpt.l0]) (Ev.pos (by omega) ?_), .inr rfl⟩
        refine Ev.bind n0 ?_
        dsimp only
        refine Ev.bind n2 ?_
        dsimp only
        exact Ev.pos rfl (Ev.neg (by decide) (Ev.some _ fun _ => rfl))
    · obtain ⟨y, hy⟩ : ∃ y, Ev (fun k => wimpleref1_Num.f k s (0 : Int) 2) y := by
        rcases num_any hs (Nat.zero_le s.size) with ⟨_, n2⟩ | n2
        · exact ⟨_, n2⟩
        · exact ⟨_, n2⟩
      refine ⟨(0, 0, 0, false, 0, [], 800), Ev.step (fun k => by rw [wimpleref4_GetOpt.l0]) (Ev.pos (by omega) ?_), .inr rfl⟩
      refine Ev.bind n0 ?_
      dsimp only
      refine Ev.bind hy ?_
      exact Ev.neg (by decide) (Ev.some _ fun _ => rfl)
theorem get_any (n s : ByteArray) (hs : s.size ≤ 1000000) (t c l : Int) : ∃ r : G, Ev (fun k => wimpleref4_GetOpt.f k n t c l s) r ∧ 0 ≤ r.1 := by
  have no : Ev (fun k => wimpleref4_GetOpt.j0 k true n t c l s) (0, 0, 0, false, 0, [], 800) := Ev.step (fun k => by rw [wimpleref4_GetOpt.j0]) (Ev.pos rfl (Ev.some _ fun _ => rfl))
  by_cases h1 : n.toList = ([0] : List UInt8)
  case neg => exact ⟨_, Ev.neg h1 no, by decide⟩
  by_cases h2 : t = 41
  case neg => exact ⟨_, Ev.pos h1 (Ev.neg h2 no), by decide⟩
  by_cases h3 : 0 ≤ c ∧ c ≤ 65535
  case neg =>
    refine ⟨_, Ev.pos h1 (Ev.pos h2 ?_), show (0 : Int) ≤ ((0, 0, 0, false, 0, [], 800) : G).1 by decide⟩
    have e : wimpleref4_short.f c = some false := by
      unfold wimpleref4_short.f
      by_cases h : c ≥ 0
      · rw [if_pos h, decide_eq_false (by omega)]
      · rw [if_neg h]
    exact Ev.call e (Ev.neg (by decide) no)
  by_cases h4 : 0 ≤ l ∧ l ≤ 4294967295
  case neg =>
    refine ⟨_, Ev.pos h1 (Ev.pos h2 ?_), show (0 : Int) ≤ ((0, 0, 0, false, 0, [], 800) : G).1 by decide⟩
    have e : wimpleref4_short.f c = some true := by
      unfold wimpleref4_short.f
      rw [if_pos h3.1, decide_eq_true h3.2]
    have e2 : wimpleref4_wide.f l = some false := by
      unfold wimpleref4_wide.f
      by_cases h : l ≥ 0
      · rw [if_pos h, decide_eq_false (by omega)]
      · rw [if_neg h]
    exact Ev.call e (Ev.pos rfl (Ev.call e2 (Ev.neg (by decide) no)))
  have e : wimpleref4_short.f c = some true := by
    unfold wimpleref4_short.f
    rw [if_pos h3.1, decide_eq_true h3.2]
  have e2 : wimpleref4_wide.f l = some true := by
    unfold wimpleref4_wide.f
    rw [if_pos h4.1, decide_eq_true h4.2]
  by_cases h5 : s.size > 65535
  · refine ⟨_, Ev.pos h1 (Ev.pos h2 (Ev.call e (Ev.pos rfl (Ev.call e2 (Ev.pos rfl ?_))))), show (0 : Int) ≤ ((0, 0, 0, false, 0, [], 800) : G).1 by decide⟩
    rw [decide_eq_true (by omega)]
    exact no
  · obtain ⟨r, r1, r2⟩ := loop_any s n hs t c l c (l / 16777216) (Go.bits .and .i64 (l / 65536) 255) (Go.bits .and .i64 l 32767) ((Go.bits .and .i64 (l / 32768) 1) == 1) s.size 0 (by omega) (by omega) [] (by simp)
    refine ⟨r, Ev.pos h1 (Ev.pos h2 (Ev.call e (Ev.pos rfl (Ev.call e2 (Ev.pos rfl ?_))))), by rcases r2 with r2 | r2 <;> rw [r2] <;> omega⟩
    rw [decide_eq_false (by omega)]
    have r1 : Ev (fun k => wimpleref4_GetOpt.l0 k 0 n t c l s c (l / 16777216) (Go.bits .and .i64 (l / 65536) 255) ((Go.bits .and .i64 (l / 32768) 1) == 1) (Go.bits .and .i64 l 32767) []) r := r1
    exact Ev.step (fun k => by rw [wimpleref4_GetOpt.j0]) (Ev.neg (by decide) r1)
theorem find_any (id op z rc : Int) (qr aa tc rd ra : Bool) (qs : List S40) (an ns l : List S53) (hl : l.length ≤ 1000) (hs : ∀ r ∈ l, r.f4.size ≤ 1000000) (j : Nat) (hj : j < l.length) (h41 : (l.getD j Go.Proofs.Ytjklgdpffmaamaa.PGo.z53).f1 = 41) :
    ∀ (n i : Nat), i + n = l.length → ∀ (m : Int) (a b e zz : Int) (dd : Bool) (os : List S55), 0 ≤ m → m ≤ i → 0 ≤ a →
    ∃ r : G, Ev (fun k => wimpleref4_FindOpt.l0 k m (i : Int) id qr op aa tc rd ra z rc qs an ns l a b e dd zz os) r ∧ 0 ≤ r.1 ∧ m ≤ r.2.2.2.2.2.2 ∧ (i ≤ j → m + 1 ≤ r.2.2.2.2.2.2)
  | 0, i, h, m, a, b, e, zz, dd, os, h0, h1, ha => ⟨(a, b, e, dd, zz, os, m), Ev.step (fun k => by rw [wimpleref4_FindOpt.l0]) (Ev.neg (by omega) (Ev.some _ fun _ => rfl)), ha, Int.le_refl _, fun hi => by omega⟩
  | n + 1, i, h, m, a, b, e, zz, dd, os, h0, h1, ha => by
    have hm : rd_T53 l (i : Int) ∈ l := by
      show l.getD i _ ∈ l
      rw [Pu.getD_lt (by omega)]; exact List.getElem_mem _
    have hj1 : i = j → (rd_T53 l (i : Int)).f1 = 41 := fun e => by rw [e]; exact h41
    have hq := hs _ hm
    generalize hx : rd_T53 l (i : Int) = q at *
    by_cases c1 : q.f1 = 41
    · by_cases c2 : m = 0
      · obtain ⟨g, g1, g2⟩ := get_any q.f0 q.f4 hq q.f1 q.f2 q.f3
        obtain ⟨r, r1, r2, r3, r4⟩ := find_any id op z rc qr aa tc rd ra qs an ns l hl hs j hj h41 n (i + 1) (by omega) (m + 1) g.1 g.2.1 g.2.2.1 g.2.2.2.2.1 g.2.2.2.1 g.2.2.2.2.2.1 (by omega) (by omega) g2
        refine ⟨r, Ev.step (fun k => by rw [wimpleref4_FindOpt.l0]) (Ev.pos (by omega) (Ev.pos (by omega) ?_)), r2, by omega, fun _ => by omega⟩
        rw [hx]
        refine Ev.pos c1 (Ev.pos c2 (Ev.bind g1 ?_))
        rw [Pu.w64 (x := m + 1) (by omega) (by omega), Pu.w64 (x := (i : Int) + 1) (by omega) (by omega)]
        exact r1
      · obtain ⟨r, r1, r2, r3, r4⟩ := find_any id op z rc qr aa tc rd ra qs an ns l hl hs j hj h41 n (i + 1) (by omega) (m + 1) a b e zz dd os (by omega) (by omega) ha
        refine ⟨r, Ev.step (fun k => by rw [wimpleref4_FindOpt.l0]) (Ev.pos (by omega) (Ev.pos (by omega) ?_)), r2, by omega, fun _ => by omega⟩
        rw [hx]
        refine Ev.pos c1 (Ev.neg c2 ?_)
        rw [Pu.w64 (x := m + 1) (by omega) (by omega), Pu.w64 (x := (i : Int) + 1) (by omega) (by omega)]
        exact r1
    · obtain ⟨r, r1, r2, r3, r4⟩ := find_any id op z rc qr aa tc rd ra qs an ns l hl hs j hj h41 n (i + 1) (by omega) m a b e zz dd os h0 (by omega) ha
      refine ⟨r, Ev.step (fun k => by rw [wimpleref4_FindOpt.l0]) (Ev.pos (by omega) (Ev.pos (by omega) ?_)), r2, r3, fun hi => r4 (by by_cases e : i = j; exact absurd (hj1 e) c1; omega)⟩
      rw [hx]
      refine Ev.neg c1 ?_
      rw [Pu.w64 (x := (i : Int) + 1) (by omega) (by omega)]
      exact r1
/-- Where an OPT stands last. -/
theorem find_last (id op z rc : Int) (qr aa tc rd ra : Bool) (qs : List S40) (an ns l : List S53) (x : S53) (hl : l.length ≤ 100) (hs : ∀ r ∈ l ++ [x], r.f4.size ≤ 1000000) (h41 : x.f1 = 41) :
    ∃ r : G, Ev (fun k => wimpleref4_FindOpt.f k id qr op aa tc rd ra z rc qs an ns (l ++ [x])) r ∧ 0 ≤ r.1 ∧ 1 ≤ r.2.2.2.2.2.2 := by
  obtain ⟨r, r1, r2, _, r4⟩ := find_any id op z rc qr aa tc rd ra qs an ns (l ++ [x]) (by simp; omega) hs l.length (by simp) (by rw [List.getD_eq_getElem?_getD, List.getElem?_append_right (Nat.le_refl _)]; simpa using h41) (l ++ [x]).length 0 (by omega) 0 0 0 0 0 false [] (by omega) (by omega) (by omega)
  exact ⟨r, r1, r2, r4 (Nat.zero_le _)⟩
end Go.Proofs.Ytjklgdpffmaamaa.OptAny

namespace Go.Proofs.Ytjklgdpffmaamaa.PPa
open Go.RowKit Go.Proofs.YtjklgdpffmaamaaW.PrintWords Go.Proofs.YtjklgdpffmaamaaW.PrintLast Go.Proofs.YtjklgdpffmaamaaW.PrintMore
attribute [local go_sem] max2_int min2_int max_two min_two max_three min_three max_four min_four   -- for this text's walks alone
set_option linter.unusedVariables false
set_option linter.unusedSimpArgs false

theorem eqA23 (d : Nat) (w : World) (x0 y0 : Int) (x1 y1 : Bool) (x2 y2 : Int) (x3 y3 : Bool) (x4 y4 : Bool) (x5 y5 : Bool) (x6 y6 : Bool) (x7 y7 : Int) (x8 y8 : Int) :
    (Op.equalIn (d + 2) 23 (.agg #[.int .i64 x0, .bool x1, .int .i64 x2, .bool x3, .bool x4, .bool x5, .bool x6, .int .i64 x7, .int .i64 x8]) (.agg #[.int .i64 y0, .bool y1, .int .i64 y2, .bool y3, .bool y4, .bool y5, .bool y6, .int .i64 y7, .int .i64 y8])).run Try.prog w = .ok (x0 == y0 && (x1 == y1 && (x2 == y2 && (x3 == y3 && (x4 == y4 && (x5 == y5 && (x6 == y6 && (x7 == y7 && (x8 == y8))))))))) w := by
  refine eqA_of Try.underlying23 (by kernel_rfl) ?_
  refine eqf_cons (by rfl) (by go_simp; rfl) (by go_simp; rfl) (by go_simp) ?_
  refine eqf_cons (by rfl) (by go_simp; rfl) (by go_simp; rfl) (by go_simp) ?_
  refine eqf_cons (by rfl) (by go_simp; rfl) (by go_simp; rfl) (by go_simp) ?_
  refine eqf_cons (by rfl) (by go_simp; rfl) (by go_simp; rfl) (by go_simp) ?_
  refine eqf_cons (by rfl) (by go_simp; rfl) (by go_simp; rfl) (by go_simp) ?_
  refine eqf_cons (by rfl) (by go_simp; rfl) (by go_simp; rfl) (by go_simp) ?_
  refine eqf_cons (by rfl) (by go_simp; rfl) (by go_simp; rfl) (by go_simp) ?_
  refine eqf_cons (by rfl) (by go_simp; rfl) (by go_simp; rfl) (by go_simp) ?_
  exact eqf_last (by rfl) (by go_simp; rfl) (by go_simp; rfl) (by go_simp)
end Go.Proofs.Ytjklgdpffmaamaa.PPa

namespace Go.Proofs.Ytjklgdpffmaamaa.PPa
open Go.RowKit Go.Proofs.YtjklgdpffmaamaaW.PrintWords Go.Proofs.YtjklgdpffmaamaaW.PrintLast Go.Proofs.YtjklgdpffmaamaaW.PrintMore
attribute [local go_sem] max2_int min2_int max_two min_two max_three min_three max_four min_four   -- for this text's walks alone
set_option linter.unusedVariables false
set_option linter.unusedSimpArgs false

theorem eqA40 (d : Nat) (w : World) (x0 y0 : ByteArray) (x1 y1 : Int) (x2 y2 : Int) :
    (Op.equalIn (d + 2) 40 (.agg #[.string x0, .int .i64 x1, .int .i64 x2]) (.agg #[.string y0, .int .i64 y1, .int .i64 y2])).run Try.prog w = .ok (x0.toList == y0.toList && (x1 == y1 && (x2 == y2))) w := by
  refine eqA_of Try.underlying40 (by kernel_rfl) ?_
  refine eqf_cons (by rfl) (by go_simp; rfl) (by go_simp; rfl) (by go_simp) ?_
  refine eqf_cons (by rfl) (by go_simp; rfl) (by go_simp; rfl) (by go_simp) ?_
  exact eqf_last (by rfl) (by go_simp; rfl) (by go_simp; rfl) (by go_simp)
end Go.Proofs.Ytjklgdpffmaamaa.PPa

namespace Go.Proofs.Ytjklgdpffmaamaa.PPa
open Go.RowKit Go.Proofs.YtjklgdpffmaamaaW.PrintWords Go.Proofs.YtjklgdpffmaamaaW.PrintLast Go.Proofs.YtjklgdpffmaamaaW.PrintMore
attribute [local go_sem] max2_int min2_int max_two min_two max_three min_three max_four min_four   -- for this text's walks alone
set_option linter.unusedVariables false
set_option linter.unusedSimpArgs false

theorem eqA53 (d : Nat) (w : World) (x0 y0 : ByteArray) (x1 y1 : Int) (x2 y2 : Int) (x3 y3 : Int) (x4 y4 : ByteArray) :
    (Op.equalIn (d + 2) 53 (.agg #[.string x0, .int .i64 x1, .int .i64 x2, .int .i64 x3, .string x4]) (.agg #[.string y0, .int .i64 y1, .int .i64 y2, .int .i64 y3, .string y4])).run Try.prog w = .ok (x0.toList == y0.toList && (x1 == y1 && (x2 == y2 && (x3 == y3 && (x4.toList == y4.toList))))) w := by
  refine eqA_of Try.underlying53 (by kernel_rfl) ?_
  refine eqf_cons (by rfl) (by go_simp; rfl) (by go_simp; rfl) (by go_simp) ?_
  refine eqf_cons (by rfl) (by go_simp; rfl) (by go_simp; rfl) (by go_simp) ?_
  refine eqf_cons (by rfl) (by go_simp; rfl) (by go_simp; rfl) (by go_simp) ?_
  refine eqf_cons (by rfl) (by go_simp; rfl) (by go_simp; rfl) (by go_simp) ?_
  exact eqf_last (by rfl) (by go_simp; rfl) (by go_simp; rfl) (by go_simp)
end Go.Proofs.Ytjklgdpffmaamaa.PPa

namespace Go.Proofs.Ytjklgdpffmaamaa.PPa
open Go.RowKit Go.Proofs.YtjklgdpffmaamaaW.PrintWords Go.Proofs.YtjklgdpffmaamaaW.PrintLast Go.Proofs.YtjklgdpffmaamaaW.PrintMore
attribute [local go_sem] max2_int min2_int max_two min_two max_three min_three max_four min_four   -- for this text's walks alone
set_option linter.unusedVariables false
set_option linter.unusedSimpArgs false

attribute [local go_sem high] eqA23 eqA40 eqA53
/-! ### wimplelaw0_SameQuestions: function 31 -/
def wimplelaw0_SameQuestions.l0 : Nat → List (S40) → List (S40) → Int → Option (Bool)
  | 0, _, _, _ => none
  | k + 1, x0, x1, x5 => if x5 < (x0.length : Int) then (if 0 ≤ x5 then (if x5 < (x1.length : Int) then (if (!((((rd_T40 x0 x5).f0).toList) == (((rd_T40 x1 x5).f0).toList)) || (!(((rd_T40 x0 x5).f1) == ((rd_T40 x1 x5).f1)) || (!(((rd_T40 x0 x5).f2) == ((rd_T40 x1 x5).f2))))) = true then (some false) else (wimplelaw0_SameQuestions.l0 k x0 x1 (wrap64 (x5 + 1)))) else (none)) else (none)) else (some true)
def wimplelaw0_SameQuestions.f (k : Nat) (l0 : List (S40)) (l1 : List (S40)) : Option (Bool) := if (l0.length : Int) = (l1.length : Int) then (wimplelaw0_SameQuestions.l0 k l0 l1 0) else (some false)
set_option maxHeartbeats 8000000 in
set_option maxRecDepth 100000 in
theorem wimplelaw0_SameQuestions.calls (k : Nat) (A0 : Option Addr) (c0 : Nat) (l0 : List (S40)) (A1 : Option Addr) (c1 : Nat) (l1 : List (S40)) (r : Bool) (w : World) (hr0 : Kd.C k40 w A0 l0.length l0) (hc0 : l0.length ≤ c0) (hr1 : Kd.C k40 w A1 l1.length l1) (hc1 : l1.length ≤ c1) (h : wimplelaw0_SameQuestions.f k l0 l1 = some r) :
    Calls Try.prog 31 #[.slice A0 l0.length c0, .slice A1 l1.length c1] w fun e w' => e = .returned (.bool r) ∧ Drawn0 w w' := by
  have hu40 := Try.underlying40
  have HR0 := Aside0.mk hr0
  have HC0 := Aside0.mk hc0
  clear hr0 hc0
  have HR1 := Aside0.mk hr1
  have HC1 := Aside0.mk hc1
  clear hr1 hc1
  have H : (if (l0.length : Int) = (l1.length : Int) then (wimplelaw0_SameQuestions.l0 k l0 l1 0) else (some false)) = some r := h
  clear h
  by_cases c3 : (l0.length : Int) = (l1.length : Int)
  · rw [if_pos c3] at H
    have c3b0 : ((l0.length : Int) == (l1.length : Int)) = true := beq_iff_eq.mpr c3
    have c3b1 : ((l0.length : Int) != (l1.length : Int)) = false := bne_eq_false_iff_eq.mpr c3
    have c3b2 : (l0.length == l1.length) = true := by first | simpa using c3 | (simp at c3 ⊢; omega)
    clear c3
    have H' := Aside0.mk H
    clear H
    go_enter Try.func31, Try.ntmps31
    go_wp2
    repeat (go_quiet (fail); try go_wp2)
    go_loopg [5] k (fun kq v5 w' => ∃ (x5_1 : Int), v5 = .int .i64 x5_1 ∧ Aside0 (wimplelaw0_SameQuestions.l0 kq l0 l1 x5_1 = some r) ∧ Aside0 (kq ≤ k) ∧ Drawn0 w w')
    case atStart => exact ⟨(0), (by first | rfl | (simp; done) | (simp [*]; done)), H', ⟨Nat.le_refl _⟩, by repeat (first | exact Drawn0.refl _ | apply Drawn0.step)⟩
    case round =>
      clear H'
      try clear c1
      try clear p2
      try clear c3
      try clear c3b0
      try clear c3b1
      try clear c3b2
      obtain ⟨x5_1, rfl, HA, HK1, ⟨m1, rfl⟩⟩ := hrel
      cases gk with
      | zero => exact absurd HA.out (by simp [wimplelaw0_SameQuestions.l0])
      | succ k1 =>
        have H := HA.out
        clear HA
        simp only [wimplelaw0_SameQuestions.l0] at H
        by_cases c4 : x5_1 < (l0.length : Int)
        · rw [if_pos c4] at H
          have c4b0 : decide (x5_1 < (l0.length : Int)) = true := decide_eq_true c4
          clear c4
          by_cases c5 : 0 ≤ x5_1
          · rw [if_pos c5] at H
            have c5b0 : decide (0 ≤ x5_1) = true := decide_eq_true c5
            clear c5
            by_cases c6 : x5_1 < (l1.length : Int)
            · rw [if_pos c6] at H
              have c6b0 : decide (x5_1 < (l1.length : Int)) = true := decide_eq_true c6
              clear c6
              by_cases c7 : (!((((rd_T40 l0 x5_1).f0).toList) == (((rd_T40 l1 x5_1).f0).toList)) || (!(((rd_T40 l0 x5_1).f1) == ((rd_T40 l1 x5_1).f1)) || (!(((rd_T40 l0 x5_1).f2) == ((rd_T40 l1 x5_1).f2))))) = true
              · rw [if_pos c7] at H
                have c7b0 : (!((((rd_T40 l0 x5_1).f0).toList) == (((rd_T40 l1 x5_1).f0).toList)) || (!(((rd_T40 l0 x5_1).f1) == ((rd_T40 l1 x5_1).f1)) || (!(((rd_T40 l0 x5_1).f2) == ((rd_T40 l1 x5_1).f2))))) = true := c7
                clear c7
                obtain rfl := Option.some.inj H
                have p101 : 0 ≤ (x5_1 : Int) := of_decide_eq_true (by first | (with_reducible assumption) | assumption)
                have q101 : x5_1 < (l0.length : Int) := of_decide_eq_true (by first | (with_reducible assumption) | assumption)
                obtain ⟨ad101, e101, hx101_0, hx101_1, hx101_2⟩ := at_T40 HR0.out x5_1 p101 q101
                cases e101
                replace p101 := eq_true p101
                replace q101 := eq_true q101
                have p102 : 0 ≤ (x5_1 : Int) := of_decide_eq_true (by first | (with_reducible assumption) | assumption)
                have q102 : x5_1 < (l1.length : Int) := of_decide_eq_true (by first | (with_reducible assumption) | assumption)
                obtain ⟨ad102, e102, hx102_0, hx102_1, hx102_2⟩ := at_T40 HR1.out x5_1 p102 q102
                cases e102
                replace p102 := eq_true p102
                replace q102 := eq_true q102
                go_wp2
                repeat (go_quiet (fail); try go_wp2)
                go_ret
                exact ⟨by first | rfl | (simp; done) | (simp [*]; done), by repeat (first | exact Drawn0.refl _ | apply Drawn0.step)⟩
              · rw [if_neg c7] at H
                have c7b0 : (!((((rd_T40 l0 x5_1).f0).toList) == (((rd_T40 l1 x5_1).f0).toList)) || (!(((rd_T40 l0 x5_1).f1) == ((rd_T40 l1 x5_1).f1)) || (!(((rd_T40 l0 x5_1).f2) == ((rd_T40 l1 x5_1).f2))))) = false := by simpa using c7
                clear c7
                have H' := Aside0.mk H
                clear H
                have p101 : 0 ≤ (x5_1 : Int) := of_decide_eq_true (by first | (with_reducible assumption) | assumption)
                have q101 : x5_1 < (l0.length : Int) := of_decide_eq_true (by first | (with_reducible assumption) | assumption)
                obtain ⟨ad101, e101, hx101_0, hx101_1, hx101_2⟩ := at_T40 HR0.out x5_1 p101 q101
                cases e101
                replace p101 := eq_true p101
                replace q101 := eq_true q101
                have p102 : 0 ≤ (x5_1 : Int) := of_decide_eq_true (by first | (with_reducible assumption) | assumption)
                have q102 : x5_1 < (l1.length : Int) := of_decide_eq_true (by first | (with_reducible assumption) | assumption)
                obtain ⟨ad102, e102, hx102_0, hx102_1, hx102_2⟩ := at_T40 HR1.out x5_1 p102 q102
                cases e102
                replace p102 := eq_true p102
                replace q102 := eq_true q102
                go_wp2
                repeat (go_quiet (fail); try go_wp2)
                go_roundg k1
                case measure => have := HK1.out; omega
                case rel => exact ⟨(wrap64 (x5_1 + 1)), (by first | rfl | (simp; done) | (simp [*]; done)), H', ⟨by have := HK1.out; omega⟩, by repeat (first | exact Drawn0.refl _ | apply Drawn0.step)⟩
            · rw [if_neg c6] at H
              exact absurd H (by simp)
          · rw [if_neg c5] at H
            exact absurd H (by simp)
        · rw [if_neg c4] at H
          have c4b0 : decide (x5_1 < (l0.length : Int)) = false := decide_eq_false c4
          clear c4
          obtain rfl := Option.some.inj H
          go_wp2
          repeat (go_quiet (fail); try go_wp2)
          go_ret
          exact ⟨by first | rfl | (simp; done) | (simp [*]; done), by repeat (first | exact Drawn0.refl _ | apply Drawn0.step)⟩
  · rw [if_neg c3] at H
    have c3b0 : ((l0.length : Int) == (l1.length : Int)) = false := beq_eq_false_iff_ne.mpr c3
    have c3b1 : ((l0.length : Int) != (l1.length : Int)) = true := bne_iff_ne.mpr c3
    have c3b2 : (l0.length == l1.length) = false := by first | simpa using c3 | (simp at c3 ⊢; omega)
    obtain rfl := Option.some.inj H
    go_enter Try.func31, Try.ntmps31
    go_wp2
    repeat (go_quiet (fail); try go_wp2)
    go_ret
    exact ⟨by first | rfl | (simp; done) | (simp [*]; done), by repeat (first | exact Drawn0.refl _ | apply Drawn0.step)⟩

/-! ### wimplelaw0_SameRrs: function 44 -/
def wimplelaw0_SameRrs.l0 : Nat → List (S53) → List (S53) → Int → Option (Bool)
  | 0, _, _, _ => none
  | k + 1, x0, x1, x5 => if x5 < (x0.length : Int) then (if 0 ≤ x5 then (if x5 < (x1.length : Int) then (if (!((((rd_T53 x0 x5).f0).toList) == (((rd_T53 x1 x5).f0).toList)) || (!(((rd_T53 x0 x5).f1) == ((rd_T53 x1 x5).f1)) || (!(((rd_T53 x0 x5).f2) == ((rd_T53 x1 x5).f2)) || (!(((rd_T53 x0 x5).f3) == ((rd_T53 x1 x5).f3)) || (!((((rd_T53 x0 x5).f4).toList) == (((rd_T53 x1 x5).f4).toList))))))) = true then (some false) else (wimplelaw0_SameRrs.l0 k x0 x1 (wrap64 (x5 + 1)))) else (none)) else (none)) else (some true)
def wimplelaw0_SameRrs.f (k : Nat) (l0 : List (S53)) (l1 : List (S53)) : Option (Bool) := if (l0.length : Int) = (l1.length : Int) then (wimplelaw0_SameRrs.l0 k l0 l1 0) else (some false)
set_option maxHeartbeats 8000000 in
set_option maxRecDepth 100000 in
theorem wimplelaw0_SameRrs.calls (k : Nat) (A0 : Option Addr) (c0 : Nat) (l0 : List (S53)) (A1 : Option Addr) (c1 : Nat) (l1 : List (S53)) (r : Bool) (w : World) (hr0 : Kd.C k53 w A0 l0.length l0) (hc0 : l0.length ≤ c0) (hr1 : Kd.C k53 w A1 l1.length l1) (hc1 : l1.length ≤ c1) (h : wimplelaw0_SameRrs.f k l0 l1 = some r) :
    Calls Try.prog 44 #[.slice A0 l0.length c0, .slice A1 l1.length c1] w fun e w' => e = .returned (.bool r) ∧ Drawn0 w w' := by
  have hu53 := Try.underlying53
  have HR0 := Aside0.mk hr0
  have HC0 := Aside0.mk hc0
  clear hr0 hc0
  have HR1 := Aside0.mk hr1
  have HC1 := Aside0.mk hc1
  clear hr1 hc1
  have H : (if (l0.length : Int) = (l1.length : Int) then (wimplelaw0_SameRrs.l0 k l0 l1 0) else (some false)) = some r := h
  clear h
  by_cases c3 : (l0.length : Int) = (l1.length : Int)
  · rw [if_pos c3] at H
    have c3b0 : ((l0.length : Int) == (l1.length : Int)) = true := beq_iff_eq.mpr c3
    have c3b1 : ((l0.length : Int) != (l1.length : Int)) = false := bne_eq_false_iff_eq.mpr c3
    have c3b2 : (l0.length == l1.length) = true := by first | simpa using c3 | (simp at c3 ⊢; omega)
    clear c3
    have H' := Aside0.mk H
    clear H
    go_enter Try.func44, Try.ntmps44
    go_wp2
    repeat (go_quiet (fail); try go_wp2)
    go_loopg [5] k (fun kq v5 w' => ∃ (x5_1 : Int), v5 = .int .i64 x5_1 ∧ Aside0 (wimplelaw0_SameRrs.l0 kq l0 l1 x5_1 = some r) ∧ Aside0 (kq ≤ k) ∧ Drawn0 w w')
    case atStart => exact ⟨(0), (by first | rfl | (simp; done) | (simp [*]; done)), H', ⟨Nat.le_refl _⟩, by repeat (first | exact Drawn0.refl _ | apply Drawn0.step)⟩
    case round =>
      clear H'
      try clear c1
      try clear p2
      try clear c3
      try clear c3b0
      try clear c3b1
      try clear c3b2
      obtain ⟨x5_1, rfl, HA, HK1, ⟨m1, rfl⟩⟩ := hrel
      cases gk with
      | zero => exact absurd HA.out (by simp [wimplelaw0_SameRrs.l0])
      | succ k1 =>
        have H := HA.out
        clear HA
        simp only [wimplelaw0_SameRrs.l0] at H
        by_cases c4 : x5_1 < (l0.length : Int)
        · rw [if_pos c4] at H
          have c4b0 : decide (x5_1 < (l0.length : Int)) = true := decide_eq_true c4
          clear c4
          by_cases c5 : 0 ≤ x5_1
          · rw [if_pos c5] at H
            have c5b0 : decide (0 ≤ x5_1) = true := decide_eq_true c5
            clear c5
            by_cases c6 : x5_1 < (l1.length : Int)
            · rw [if_pos c6] at H
              have c6b0 : decide (x5_1 < (l1.length : Int)) = true := decide_eq_true c6
              clear c6
              by_cases c7 : (!((((rd_T53 l0 x5_1).f0).toList) == (((rd_T53 l1 x5_1).f0).toList)) || (!(((rd_T53 l0 x5_1).f1) == ((rd_T53 l1 x5_1).f1)) || (!(((rd_T53 l0 x5_1).f2) == ((rd_T53 l1 x5_1).f2)) || (!(((rd_T53 l0 x5_1).f3) == ((rd_T53 l1 x5_1).f3)) || (!((((rd_T53 l0 x5_1).f4).toList) == (((rd_T53 l1 x5_1).f4).toList))))))) = true
              · rw [if_pos c7] at H
                have c7b0 : (!((((rd_T53 l0 x5_1).f0).toList) == (((rd_T53 l1 x5_1).f0).toList)) || (!(((rd_T53 l0 x5_1).f1) == ((rd_T53 l1 x5_1).f1)) || (!(((rd_T53 l0 x5_1).f2) == ((rd_T53 l1 x5_1).f2)) || (!(((rd_T53 l0 x5_1).f3) == ((rd_T53 l1 x5_1).f3)) || (!((((rd_T53 l0 x5_1).f4).toList) == (((rd_T53 l1 x5_1).f4).toList))))))) = true := c7
                clear c7
                obtain rfl := Option.some.inj H
                have p103 : 0 ≤ (x5_1 : Int) := of_decide_eq_true (by first | (with_reducible assumption) | assumption)
                have q103 : x5_1 < (l0.length : Int) := of_decide_eq_true (by first | (with_reducible assumption) | assumption)
                obtain ⟨ad103, e103, hx103_0, hx103_1, hx103_2, hx103_3, hx103_4⟩ := at_T53 HR0.out x5_1 p103 q103
                cases e103
                replace p103 := eq_true p103
                replace q103 := eq_true q103
                have p104 : 0 ≤ (x5_1 : Int) := of_decide_eq_true (by first | (with_reducible assumption) | assumption)
                have q104 : x5_1 < (l1.length : Int) := of_decide_eq_true (by first | (with_reducible assumption) | assumption)
                obtain ⟨ad104, e104, hx104_0, hx104_1, hx104_2, hx104_3, hx104_4⟩ := at_T53 HR1.out x5_1 p104 q104
                cases e104
                replace p104 := eq_true p104
                replace q104 := eq_true q104
                go_wp2
                repeat (go_quiet (fail); try go_wp2)
                go_ret
                exact ⟨by first | rfl | (simp; done) | (simp [*]; done), by repeat (first | exact Drawn0.refl _ | apply Drawn0.step)⟩
              · rw [if_neg c7] at H
                have c7b0 : (!((((rd_T53 l0 x5_1).f0).toList) == (((rd_T53 l1 x5_1).f0).toList)) || (!(((rd_T53 l0 x5_1).f1) == ((rd_T53 l1 x5_1).f1)) || (!(((rd_T53 l0 x5_1).f2) == ((rd_T53 l1 x5_1).f2)) || (!(((rd_T53 l0 x5_1).f3) == ((rd_T53 l1 x5_1).f3)) || (!((((rd_T53 l0 x5_1).f4).toList) == (((rd_T53 l1 x5_1).f4).toList))))))) = false := by simpa using c7
                clear c7
                have H' := Aside0.mk H
                clear H
                have p103 : 0 ≤ (x5_1 : Int) := of_decide_eq_true (by first | (with_reducible assumption) | assumption)
                have q103 : x5_1 < (l0.length : Int) := of_decide_eq_true (by first | (with_reducible assumption) | assumption)
                obtain ⟨ad103, e103, hx103_0, hx103_1, hx103_2, hx103_3, hx103_4⟩ := at_T53 HR0.out x5_1 p103 q103
                cases e103
                replace p103 := eq_true p103
                replace q103 := eq_true q103
                have p104 : 0 ≤ (x5_1 : Int) := of_decide_eq_true (by first | (with_reducible assumption) | assumption)
                have q104 : x5_1 < (l1.length : Int) := of_decide_eq_true (by first | (with_reducible assumption) | assumption)
                obtain ⟨ad104, e104, hx104_0, hx104_1, hx104_2, hx104_3, hx104_4⟩ := at_T53 HR1.out x5_1 p104 q104
                cases e104
                replace p104 := eq_true p104
                replace q104 := eq_true q104
                go_wp2
                repeat (go_quiet (fail); try go_wp2)
                go_roundg k1
                case measure => have := HK1.out; omega
                case rel => exact ⟨(wrap64 (x5_1 + 1)), (by first | rfl | (simp; done) | (simp [*]; done)), H', ⟨by have := HK1.out; omega⟩, by repeat (first | exact Drawn0.refl _ | apply Drawn0.step)⟩
            · rw [if_neg c6] at H
              exact absurd H (by simp)
          · rw [if_neg c5] at H
            exact absurd H (by simp)
        · rw [if_neg c4] at H
          have c4b0 : decide (x5_1 < (l0.length : Int)) = false := decide_eq_false c4
          clear c4
          obtain rfl := Option.some.inj H
          go_wp2
          repeat (go_quiet (fail); try go_wp2)
          go_ret
          exact ⟨by first | rfl | (simp; done) | (simp [*]; done), by repeat (first | exact Drawn0.refl _ | apply Drawn0.step)⟩
  · rw [if_neg c3] at H
    have c3b0 : ((l0.length : Int) == (l1.length : Int)) = false := beq_eq_false_iff_ne.mpr c3
    have c3b1 : ((l0.length : Int) != (l1.length : Int)) = true := bne_iff_ne.mpr c3
    have c3b2 : (l0.length == l1.length) = false := by first | simpa using c3 | (simp at c3 ⊢; omega)
    obtain rfl := Option.some.inj H
    go_enter Try.func44, Try.ntmps44
    go_wp2
    repeat (go_quiet (fail); try go_wp2)
    go_ret
    exact ⟨by first | rfl | (simp; done) | (simp [*]; done), by repeat (first | exact Drawn0.refl _ | apply Drawn0.step)⟩

/-! ### wimplelaw0_SameMsg: function 20 -/
end Go.Proofs.Ytjklgdpffmaamaa.PPa

namespace Go.Proofs.Ytjklgdpffmaamaa.MsgW
open Go.RowKit Go.PlainAid Go.Maps Go.Proofs.Ytjklgdpffmaamaa.Base Go.Proofs.Ytjklgdpffmaamaa.Oct Go.Proofs.Ytjklgdpffmaamaa.Nm Go.Proofs.Ytjklgdpffmaamaa.Wr Go.Proofs.Ytjklgdpffmaamaa.Wm Go.Proofs.Ytjklgdpffmaamaa.PPa Go.Proofs.Ytjklgdpffmaamaa.Pu
open Go.Proofs.YtjklgdpffmaamaaW.PrintWords (blk_cell blk_below blk_put blk_frozen blk_ne blk_new blk_lt blk_grown LeO Ev Kd Kd.R_reads' own_nil)
set_option linter.unusedVariables false
set_option linter.unusedSimpArgs false
theorem sameQ_at (l : List S40) (hl : l.length ≤ 1000000) : ∀ n i, l.length - i ≤ n → i ≤ l.length → Ev (fun k => wimplelaw0_SameQuestions.l0 k l l (i : Int)) true := by
  intro n
  induction n with
  | zero => intro i h h2; exact Ev.step (fun k => by rw [wimplelaw0_SameQuestions.l0]) (Ev.neg (by omega) (Ev.now _))
  | succ n ih =>
    intro i h h2
    by_cases hi : i < l.length
    · refine Ev.step (fun k => by rw [wimplelaw0_SameQuestions.l0]) (Ev.pos (by omega) (Ev.pos (by omega) (Ev.pos (by omega) (Ev.neg (by simp) ?_))))
      rw [Pu.w64 (by omega) (by omega), show (i : Int) + 1 = ((i + 1 : Nat) : Int) by omega]
      exact ih (i + 1) (by omega) (by omega)
    · exact Ev.step (fun k => by rw [wimplelaw0_SameQuestions.l0]) (Ev.neg (by omega) (Ev.now _))
theorem sameQ (l : List S40) (hl : l.length ≤ 1000000) : Ev (fun k => wimplelaw0_SameQuestions.f k l l) true := Ev.pos rfl (sameQ_at l hl _ 0 (Nat.le_refl _) (by omega))
theorem sameR_at (l : List S53) (hl : l.length ≤ 1000000) : ∀ n i, l.length - i ≤ n → i ≤ l.length → Ev (fun k => wimplelaw0_SameRrs.l0 k l l (i : Int)) true := by
  intro n
  induction n with
  | zero => intro i h h2; exact Ev.step (fun k => by rw [wimplelaw0_SameRrs.l0]) (Ev.neg (by omega) (Ev.now _))
  | succ n ih =>
    intro i h h2
    by_cases hi : i < l.length
    · refine Ev.step (fun k => by rw [wimplelaw0_SameRrs.l0]) (Ev.pos (by omega) (Ev.pos (by omega) (Ev.pos (by omega) (Ev.neg (by simp) ?_))))
      rw [Pu.w64 (by omega) (by omega), show (i : Int) + 1 = ((i + 1 : Nat) : Int) by omega]
      exact ih (i + 1) (by omega) (by omega)
    · exact Ev.step (fun k => by rw [wimplelaw0_SameRrs.l0]) (Ev.neg (by omega) (Ev.now _))
theorem sameR (l : List S53) (hl : l.length ≤ 1000000) : Ev (fun k => wimplelaw0_SameRrs.f k l l) true := Ev.pos rfl (sameR_at l hl _ 0 (Nat.le_refl _) (by omega))
def sQ (x : Qn) : S40 := ⟨x.name, x.type, x.cls⟩
def sR (x : Rr) : S53 := ⟨x.name, x.type, x.cls, x.ttl, x.data⟩
/-- The rows of what was read lie in a world. -/
structure Holds (W : World) (g : Got) (vq va vn vr : Value) : Prop where
  q : W.ownsRow 0 40 3 vq g.qs.length (cellsQ g.qs)
  a : W.ownsRow 0 53 5 va g.an.length (cellsR g.an)
  n : W.ownsRow 0 53 5 vn g.ns.length (cellsR g.ns)
  r : W.ownsRow 0 53 5 vr g.ar.length (cellsR g.ar)
theorem Holds.below {W W' : World} {g : Got} {vq va vn vr : Value} (h : Holds W g vq va vn vr) (b : Below W.heap.size W W') : Holds W' g vq va vn vr :=
  ⟨Sl.own_below h.q b, Sl.own_below h.a b, Sl.own_below h.n b, Sl.own_below h.r b⟩
theorem got_holds {s : ByteArray} {w w' : World} {g : Got} {e : Ending} (h : GetPost s w g e w') : ∃ Aq Aqc Aa Aac An Anc Ar Arc, e = .returned (.tuple #[.agg #[.int .i64 g.h.id, .bool g.h.qr, .int .i64 g.h.op, .bool g.h.aa, .bool g.h.tc, .bool g.h.rd, .bool g.h.ra, .int .i64 g.h.z, .int .i64 g.h.rc, .slice Aq g.qs.length Aqc, .slice Aa g.an.length Aac, .slice An g.ns.length Anc, .slice Ar g.ar.length Arc], .int .i64 g.e]) ∧ Holds w' g (.slice Aq g.qs.length Aqc) (.slice Aa g.an.length Aac) (.slice An g.ns.length Anc) (.slice Ar g.ar.length Arc) ∧ Below w.heap.size w w' := by
  obtain ⟨vq, va, vn, vr, rfl, hq, ha, hn, hr, _, _, _, hb⟩ := h
  obtain ⟨Aq, cq, rfl⟩ := Sl.own_slice hq
  obtain ⟨Aa, ca, rfl⟩ := Sl.own_slice ha
  obtain ⟨An, cn, rfl⟩ := Sl.own_slice hn
  obtain ⟨Ar, cr, rfl⟩ := Sl.own_slice hr
  exact ⟨Aq, cq, Aa, ca, An, cn, Ar, cr, rfl, ⟨own_lower hq (Nat.zero_le _), own_lower ha (Nat.zero_le _), own_lower hn (Nat.zero_le _), own_lower hr (Nat.zero_le _)⟩, hb⟩
theorem qC {w : World} {A : Option Addr} {c : Nat} {qs : List Qn} (h : w.ownsRow 0 40 3 (.slice A qs.length c) qs.length (cellsQ qs)) : qs.length ≤ c ∧ Kd.C k40 w A (qs.map sQ).length (qs.map sQ) := by
  obtain ⟨_, h1, h2⟩ := Kd.R_reads' (qkd k40 40 sQ (fun w base ok q => k40_mkM w base ok (sQ q)) rfl h (ok := fun _ => True) (fun _ _ => trivial))
  exact ⟨h1, h2⟩
theorem rC {w : World} {A : Option Addr} {c : Nat} {qs : List Rr} (h : w.ownsRow 0 53 5 (.slice A qs.length c) qs.length (cellsR qs)) : qs.length ≤ c ∧ Kd.C k53 w A (qs.map sR).length (qs.map sR) := by
  obtain ⟨_, h1, h2⟩ := Kd.R_reads' (rkd k53 53 sR (fun w base ok q => k53_mkM w base ok (sR q)) rfl h (ok := fun _ => True) (fun _ _ => trivial))
  exact ⟨h1, h2⟩
end Go.Proofs.Ytjklgdpffmaamaa.MsgW

namespace Go.Proofs.Ytjklgdpffmaamaa.FindK
open Go.RowKit Go.PlainAid Go.Maps Go.Proofs.Ytjklgdpffmaamaa.Base Go.Proofs.Ytjklgdpffmaamaa.Oct Go.Proofs.Ytjklgdpffmaamaa.Nm Go.Proofs.Ytjklgdpffmaamaa.Wr Go.Proofs.Ytjklgdpffmaamaa.Wm Go.Proofs.Ytjklgdpffmaamaa.Pad Go.Proofs.Ytjklgdpffmaamaa.MsgW
open Go.Proofs.Ytjklgdpffmaamaa.PGo (S40 S53 k40 k53 k40_mkM k53_mkM wimpleref4_FindOpt.calls)
open Go.Proofs.YtjklgdpffmaamaaW.PrintWords (Ev Kd Kd.R_reads' Kd.R_slice)
set_option linter.unusedVariables false
def gQ (x : Qn) : S40 := ⟨x.name, x.type, x.cls⟩
def gR (x : Rr) : S53 := ⟨x.name, x.type, x.cls, x.ttl, x.data⟩
theorem fqC {w : World} {A : Option Addr} {c : Nat} {qs : List Qn} (h : w.ownsRow 0 40 3 (.slice A qs.length c) qs.length (cellsQ qs)) : qs.length ≤ c ∧ Kd.C k40 w A (qs.map gQ).length (qs.map gQ) := by
  obtain ⟨_, h1, h2⟩ := Kd.R_reads' (qkd k40 40 gQ (fun w base ok q => k40_mkM w base ok (gQ q)) rfl h (ok := fun _ => True) (fun _ _ => trivial))
  exact ⟨h1, h2⟩
theorem frC {w : World} {A : Option Addr} {c : Nat} {qs : List Rr} (h : w.ownsRow 0 53 5 (.slice A qs.length c) qs.length (cellsR qs)) : qs.length ≤ c ∧ Kd.C k53 w A (qs.map gR).length (qs.map gR) := by
  obtain ⟨_, h1, h2⟩ := Kd.R_reads' (rkd k53 53 gR (fun w base ok q => k53_mkM w base ok (gR q)) rfl h (ok := fun _ => True) (fun _ _ => trivial))
  exact ⟨h1, h2⟩
theorem may_size {r : Rr} (h : rMay r = true) : r.data.size ≤ 65535 := by
  unfold rMay at h
  simp only [Bool.and_eq_true] at h
  have h := h.2
  unfold Rd.mayD at h
  split at h
  · cases h
  split at h
  · cases h
  split at h
  · cases h
  omega
theorem findc {W : World} {g : Got} (hl : g.qs.length ≤ 64 ∧ g.an.length ≤ 64 ∧ g.ns.length ≤ 64 ∧ g.ar.length ≤ 64) {Aq Aa An Ar : Option Addr} {Aqc Aac Anc Arc : Nat}
    (h : Holds W g (.slice Aq g.qs.length Aqc) (.slice Aa g.an.length Aac) (.slice An g.ns.length Anc) (.slice Ar g.ar.length Arc)) {rs : List Rr} {d : ByteArray} (hr : g.ar = rs ++ [optR d]) (hm : ∀ r ∈ g.ar, rMay r = true) :
    ∃ (sz r2 r3 : Int) (r4 : Bool) (r5 many : Int), 0 ≤ sz ∧ 1 ≤ many ∧ Calls Try.prog 30 #[.agg #[.int .i64 g.h.id, .bool g.h.qr, .int .i64 g.h.op, .bool g.h.aa, .bool g.h.tc, .bool g.h.rd, .bool g.h.ra, .int .i64 g.h.z, .int .i64 g.h.rc, .slice Aq g.qs.length Aqc, .slice Aa g.an.length Aac, .slice An g.ns.length Anc, .slice Ar g.ar.length Arc]] W
      fun e w' => ∃ Ao no co, e = .returned (.tuple #[.agg #[.int .i64 sz, .int .i64 r2, .int .i64 r3, .bool r4, .int .i64 r5, .slice Ao no co], .int .i64 many]) ∧ Below W.heap.size W w' := by
  have e : g.ar.map gR = rs.map gR ++ [gR (optR d)] := by rw [hr, List.map_append]; rfl
  have hl4 := hl.2.2.2
  rw [hr, List.length_append, List.length_singleton] at hl4
  obtain ⟨r, ⟨K, hK⟩, r1, r2⟩ := OptAny.find_last g.h.id g.h.op g.h.z g.h.rc g.h.qr g.h.aa g.h.tc g.h.rd g.h.ra (g.qs.map gQ) (g.an.map gR) (g.ns.map gR) (rs.map gR) (gR (optR d)) (by rw [List.length_map]; omega)
    (by
      intro x hx
      rw [← e] at hx
      obtain ⟨y, hy, rfl⟩ := List.mem_map.1 hx
      have := may_size (hm y hy)
      show y.data.size ≤ 1000000
      omega) rfl
  obtain ⟨sz, a2, a3, a4, a5, os, many⟩ := r
  refine ⟨sz, a2, a3, a4, a5, many, r1, r2, ?_⟩
  have hk := hK K (Nat.le_refl _)
  rw [← e] at hk
  have := wimpleref4_FindOpt.calls K g.h.id g.h.qr g.h.op g.h.aa g.h.tc g.h.rd g.h.ra g.h.z g.h.rc Aq Aqc (g.qs.map gQ) Aa Aac (g.an.map gR) An Anc (g.ns.map gR) Ar Arc (g.ar.map gR) sz a2 a3 a4 a5 os many W
    (fqC h.q).2 (by rw [List.length_map]; exact (fqC h.q).1) (frC h.a).2 (by rw [List.length_map]; exact (frC h.a).1) (frC h.n).2 (by rw [List.length_map]; exact (frC h.n).1) (frC h.r).2 (by rw [List.length_map]; exact (frC h.r).1) hk
  simp only [List.length_map] at this
  refine this.mono ?_
  rintro e w' ⟨v, h1, h3, h2⟩
  obtain ⟨A, c, rfl⟩ := Kd.R_slice h3
  exact ⟨A, _, c, h1, h2⟩
end Go.Proofs.Ytjklgdpffmaamaa.FindK

namespace Go.Proofs.Ytjklgdpffmaamaa.SameAny
open Go.RowKit Go.PlainAid Go.Maps Go.Proofs.Ytjklgdpffmaamaa.Base Go.Proofs.Ytjklgdpffmaamaa.Oct Go.Proofs.Ytjklgdpffmaamaa.Nm Go.Proofs.Ytjklgdpffmaamaa.Wr Go.Proofs.Ytjklgdpffmaamaa.Wm Go.Proofs.Ytjklgdpffmaamaa.PPa Go.Proofs.Ytjklgdpffmaamaa.Pu Go.Proofs.Ytjklgdpffmaamaa.MsgW Go.Proofs.Ytjklgdpffmaamaa.Pad
open Go.Proofs.YtjklgdpffmaamaaW.PrintWords (blk_cell blk_below blk_put blk_frozen blk_ne blk_new blk_lt blk_grown LeO Ev Kd Kd.R_reads' own_nil Kd.C_below blk_alloc)
set_option linter.unusedVariables false
set_option linter.unusedSimpArgs false
def mQ (x : S40) : Qn := ⟨x.f0, x.f1, x.f2⟩
def mR (x : S53) : Rr := ⟨x.f0, x.f1, x.f2, x.f3, x.f4⟩
theorem sQw (l : List S40) : (l.map mQ).map sQ = l := by
  induction l with
  | nil => rfl
  | cons x l ih => rw [List.map_cons, List.map_cons, ih]; rfl
theorem sRw (l : List S53) : (l.map mR).map sR = l := by
  induction l with
  | nil => rfl
  | cons x l ih => rw [List.map_cons, List.map_cons, ih]; rfl
theorem nilR (l : List S53) : ∃ b, Ev (fun k => wimplelaw0_SameRrs.f k [] l) b := by
  cases l with
  | nil => exact ⟨_, sameR [] (by decide)⟩
  | cons x l => exact ⟨_, Ev.neg (by simp only [List.length_cons, List.length_nil]; omega) (Ev.now false)⟩
/-- The same questions. -/
theorem sameQc {W : World} {g : Got} (hl : g.qs.length ≤ 64) {Aq Bq : Option Addr} {Aqc Bqc : Nat} {qs : List S40} (eq : g.qs = qs.map mQ)
    (h : W.ownsRow 0 40 3 (.slice Aq g.qs.length Aqc) g.qs.length (cellsQ g.qs)) (k1 : Kd.C k40 W Bq qs.length qs) (l1 : qs.length ≤ Bqc) :
    Calls Try.prog 31 #[.slice Aq g.qs.length Aqc, .slice Bq qs.length Bqc] W fun e w' => e = .returned (.bool true) ∧ Below W.heap.size W w' := by
  have e1 : g.qs.map sQ = qs := by rw [eq, sQw]
  obtain ⟨K, hK⟩ := sameQ qs (by have := congrArg List.length eq; rw [List.length_map] at this; omega)
  have := (wimplelaw0_SameQuestions.calls K Aq Aqc (g.qs.map sQ) Bq Bqc qs true W (qC h).2 (by rw [List.length_map]; exact (qC h).1) k1 l1 (by rw [e1]; exact hK K (Nat.le_refl _))).mono fun e w' ⟨h1, h2⟩ => And.intro h1 h2.below
  simpa only [List.length_map] using this
set_option maxHeartbeats 2000000 in
set_option maxRecDepth 100000 in
/-- SameMsg: the headers, then part by part, as long as these are the same. -/
theorem sameMsgC (x y : Hd.Head) (Aq Aa An Ar Bq Ba Bn Br : Option Addr) (nAq Aqc nAa Aac nAn Anc nAr Arc nBq Bqc nBa Bac nBn Bnc nBr Brc : Nat) (b0 bq ba bn br : Bool) (h0 : x.eqB y = b0) (w : World)
    (kq : ∀ W, Below w.heap.size w W → Calls Try.prog 31 #[.slice Aq nAq Aqc, .slice Bq nBq Bqc] W fun e w' => e = .returned (.bool bq) ∧ Below W.heap.size W w')
    (ka : ∀ W, Below w.heap.size w W → Calls Try.prog 44 #[.slice Aa nAa Aac, .slice Ba nBa Bac] W fun e w' => e = .returned (.bool ba) ∧ Below W.heap.size W w')
    (kn : ∀ W, Below w.heap.size w W → Calls Try.prog 44 #[.slice An nAn Anc, .slice Bn nBn Bnc] W fun e w' => e = .returned (.bool bn) ∧ Below W.heap.size W w')
    (kr : ∀ W, Below w.heap.size w W → Calls Try.prog 44 #[.slice Ar nAr Arc, .slice Br nBr Brc] W fun e w' => e = .returned (.bool br) ∧ Below W.heap.size W w') :
    Calls Try.prog 20 #[.agg #[.int .i64 x.id, .bool x.qr, .int .i64 x.op, .bool x.aa, .bool x.tc, .bool x.rd, .bool x.ra, .int .i64 x.z, .int .i64 x.rc, .slice Aq nAq Aqc, .slice Aa nAa Aac, .slice An nAn Anc, .slice Ar nAr Arc], .agg #[.int .i64 y.id, .bool y.qr, .int .i64 y.op, .bool y.aa, .bool y.tc, .bool y.rd, .bool y.ra, .int .i64 y.z, .int .i64 y.rc, .slice Bq nBq Bqc, .slice Ba nBa Bac, .slice Bn nBn Bnc, .slice Br nBr Brc]] w fun e w' => e = .returned (.bool (b0 && bq && ba && bn && br)) ∧ Below w.heap.size w w' := by
  have hE := fun w => Hd.eqHead x y w
  rw [h0] at hE
  have KQ := Lib.hid kq
  have KA := Lib.hid ka
  have KN := Lib.hid kn
  have KR := Lib.hid kr
  clear h0 kq ka kn kr
  have B : Below w.heap.size w ((w.alloc (.cells #[.int .i64 x.id, .bool x.qr, .int .i64 x.op, .bool x.aa, .bool x.tc, .bool x.rd, .bool x.ra, .int .i64 x.z, .int .i64 x.rc, .slice Aq nAq Aqc, .slice Aa nAa Aac, .slice An nAn Anc, .slice Ar nAr Arc] 27)).alloc (.cells #[.int .i64 y.id, .bool y.qr, .int .i64 y.op, .bool y.aa, .bool y.tc, .bool y.rd, .bool y.ra, .int .i64 y.z, .int .i64 y.rc, .slice Bq nBq Bqc, .slice Ba nBa Bac, .slice Bn nBn Bnc, .slice Br nBr Brc] 27)) := ((Below.refl _ _).alloc (Nat.le_refl _) _).alloc (by simp) _
  have P : ((w.alloc (.cells #[.int .i64 x.id, .bool x.qr, .int .i64 x.op, .bool x.aa, .bool x.tc, .bool x.rd, .bool x.ra, .int .i64 x.z, .int .i64 x.rc, .slice Aq nAq Aqc, .slice Aa nAa Aac, .slice An nAn Anc, .slice Ar nAr Arc] 27)).alloc (.cells #[.int .i64 y.id, .bool y.qr, .int .i64 y.op, .bool y.aa, .bool y.tc, .bool y.rd, .bool y.ra, .int .i64 y.z, .int .i64 y.rc, .slice Bq nBq Bqc, .slice Ba nBa Bac, .slice Bn nBn Bnc, .slice Br nBr Brc] 27)).heap[w.heap.size]? = some (.cells #[.int .i64 x.id, .bool x.qr, .int .i64 x.op, .bool x.aa, .bool x.tc, .bool x.rd, .bool x.ra, .int .i64 x.z, .int .i64 x.rc, .slice Aq nAq Aqc, .slice Aa nAa Aac, .slice An nAn Anc, .slice Ar nAr Arc] 27 (0, 0)) := blk_alloc (blk_new w _) _
  have Q : ((w.alloc (.cells #[.int .i64 x.id, .bool x.qr, .int .i64 x.op, .bool x.aa, .bool x.tc, .bool x.rd, .bool x.ra, .int .i64 x.z, .int .i64 x.rc, .slice Aq nAq Aqc, .slice Aa nAa Aac, .slice An nAn Anc, .slice Ar nAr Arc] 27)).alloc (.cells #[.int .i64 y.id, .bool y.qr, .int .i64 y.op, .bool y.aa, .bool y.tc, .bool y.rd, .bool y.ra, .int .i64 y.z, .int .i64 y.rc, .slice Bq nBq Bqc, .slice Ba nBa Bac, .slice Bn nBn Bnc, .slice Br nBr Brc] 27)).heap[w.heap.size + 1]? = some (.cells #[.int .i64 y.id, .bool y.qr, .int .i64 y.op, .bool y.aa, .bool y.tc, .bool y.rd, .bool y.ra, .int .i64 y.z, .int .i64 y.rc, .slice Bq nBq Bqc, .slice Ba nBa Bac, .slice Bn nBn Bnc, .slice Br nBr Brc] 27 (0, 0)) := by
    have := blk_new (w.alloc (.cells #[.int .i64 x.id, .bool x.qr, .int .i64 x.op, .bool x.aa, .bool x.tc, .bool x.rd, .bool x.ra, .int .i64 x.z, .int .i64 x.rc, .slice Aq nAq Aqc, .slice Aa nAa Aac, .slice An nAn Anc, .slice Ar nAr Arc] 27)) (.cells #[.int .i64 y.id, .bool y.qr, .int .i64 y.op, .bool y.aa, .bool y.tc, .bool y.rd, .bool y.ra, .int .i64 y.z, .int .i64 y.rc, .slice Bq nBq Bqc, .slice Ba nBa Bac, .slice Bn nBn Bnc, .slice Br nBr Brc] 27)
    rwa [show (w.alloc (.cells #[.int .i64 x.id, .bool x.qr, .int .i64 x.op, .bool x.aa, .bool x.tc, .bool x.rd, .bool x.ra, .int .i64 x.z, .int .i64 x.rc, .slice Aq nAq Aqc, .slice Aa nAa Aac, .slice An nAn Anc, .slice Ar nAr Arc] 27)).heap.size = w.heap.size + 1 by simp] at this
  go_enter Try.func20, Try.ntmps20
  go_upto_region 1 with (fail)
  generalize (w.alloc (.cells #[.int .i64 x.id, .bool x.qr, .int .i64 x.op, .bool x.aa, .bool x.tc, .bool x.rd, .bool x.ra, .int .i64 x.z, .int .i64 x.rc, .slice Aq nAq Aqc, .slice Aa nAa Aac, .slice An nAn Anc, .slice Ar nAr Arc] 27)).alloc (.cells #[.int .i64 y.id, .bool y.qr, .int .i64 y.op, .bool y.aa, .bool y.tc, .bool y.rd, .bool y.ra, .int .i64 y.z, .int .i64 y.rc, .slice Bq nBq Bqc, .slice Ba nBa Bac, .slice Bn nBn Bnc, .slice Br nBr Brc] 27) = w0 at *
  obtain ⟨gp, hgp⟩ : ∃ g, g = w.heap.size := ⟨_, rfl⟩
  obtain ⟨gq, hgq⟩ : ∃ g, g = w.heap.size + 1 := ⟨_, rfl⟩
  rw [← hgq, ← hgp]
  rw [← hgp] at P
  rw [← hgq] at Q
  have GP := Lib.hid hgp
  have GQ := Lib.hid hgq
  clear hgp hgq
  have p0 : w0.cell? ⟨gp, 0, none⟩ = some (.int .i64 x.id) := (blk_cell P 0).trans rfl
  have q0 : w0.cell? ⟨gq, 0, none⟩ = some (.int .i64 y.id) := (blk_cell Q 0).trans rfl
  have p1 : w0.cell? ⟨gp, 1, none⟩ = some (.bool x.qr) := (blk_cell P 1).trans rfl
  have q1 : w0.cell? ⟨gq, 1, none⟩ = some (.bool y.qr) := (blk_cell Q 1).trans rfl
  have p2 : w0.cell? ⟨gp, 2, none⟩ = some (.int .i64 x.op) := (blk_cell P 2).trans rfl
  have q2 : w0.cell? ⟨gq, 2, none⟩ = some (.int .i64 y.op) := (blk_cell Q 2).trans rfl
  have p3 : w0.cell? ⟨gp, 3, none⟩ = some (.bool x.aa) := (blk_cell P 3).trans rfl
  have q3 : w0.cell? ⟨gq, 3, none⟩ = some (.bool y.aa) := (blk_cell Q 3).trans rfl
  have p4 : w0.cell? ⟨gp, 4, none⟩ = some (.bool x.tc) := (blk_cell P 4).trans rfl
  have q4 : w0.cell? ⟨gq, 4, none⟩ = some (.bool y.tc) := (blk_cell Q 4).trans rfl
  have p5 : w0.cell? ⟨gp, 5, none⟩ = some (.bool x.rd) := (blk_cell P 5).trans rfl
  have q5 : w0.cell? ⟨gq, 5, none⟩ = some (.bool y.rd) := (blk_cell Q 5).trans rfl
  have p6 : w0.cell? ⟨gp, 6, none⟩ = some (.bool x.ra) := (blk_cell P 6).trans rfl
  have q6 : w0.cell? ⟨gq, 6, none⟩ = some (.bool y.ra) := (blk_cell Q 6).trans rfl
  have p7 : w0.cell? ⟨gp, 7, none⟩ = some (.int .i64 x.z) := (blk_cell P 7).trans rfl
  have q7 : w0.cell? ⟨gq, 7, none⟩ = some (.int .i64 y.z) := (blk_cell Q 7).trans rfl
  have p8 : w0.cell? ⟨gp, 8, none⟩ = some (.int .i64 x.rc) := (blk_cell P 8).trans rfl
  have q8 : w0.cell? ⟨gq, 8, none⟩ = some (.int .i64 y.rc) := (blk_cell Q 8).trans rfl
  have p9 : w0.cell? ⟨gp, 9, none⟩ = some (.slice Aq nAq Aqc) := (blk_cell P 9).trans rfl
  have q9 : w0.cell? ⟨gq, 9, none⟩ = some (.slice Bq nBq Bqc) := (blk_cell Q 9).trans rfl
  have p10 : w0.cell? ⟨gp, 10, none⟩ = some (.slice Aa nAa Aac) := (blk_cell P 10).trans rfl
  have q10 : w0.cell? ⟨gq, 10, none⟩ = some (.slice Ba nBa Bac) := (blk_cell Q 10).trans rfl
  have p11 : w0.cell? ⟨gp, 11, none⟩ = some (.slice An nAn Anc) := (blk_cell P 11).trans rfl
  have q11 : w0.cell? ⟨gq, 11, none⟩ = some (.slice Bn nBn Bnc) := (blk_cell Q 11).trans rfl
  have p12 : w0.cell? ⟨gp, 12, none⟩ = some (.slice Ar nAr Arc) := (blk_cell P 12).trans rfl
  have q12 : w0.cell? ⟨gq, 12, none⟩ = some (.slice Br nBr Brc) := (blk_cell Q 12).trans rfl
  cases b0 with
  | false =>
    go_wp2_with fail
    go_ret
    exact ⟨rfl, B⟩
  | true =>
    go_wp2_with fail
    refine (KQ.out _ B).mono ?_
    rintro e w1 ⟨rfl, hb⟩
    replace B := B.trans (hb.mono B.size)
    replace P := blk_below P hb
    replace Q := blk_below Q hb
    clear hb p0 q0 p1 q1 p2 q2 p3 q3 p4 q4 p5 q5 p6 q6 p7 q7 p8 q8 p9 q9 p10 q10 p11 q11 p12 q12
    have p10 : w1.cell? ⟨gp, 10, none⟩ = some (.slice Aa nAa Aac) := (blk_cell P 10).trans rfl
    have q10 : w1.cell? ⟨gq, 10, none⟩ = some (.slice Ba nBa Bac) := (blk_cell Q 10).trans rfl
    cases bq with
    | false =>
      go_wp2_with fail
      go_ret
      exact ⟨rfl, B⟩
    | true =>
      go_wp2_with fail
      refine (KA.out _ B).mono ?_
      rintro e w2 ⟨rfl, hb⟩
      replace B := B.trans (hb.mono B.size)
      replace P := blk_below P hb
      replace Q := blk_below Q hb
      clear hb p10 q10
      have p11 : w2.cell? ⟨gp, 11, none⟩ = some (.slice An nAn Anc) := (blk_cell P 11).trans rfl
      have q11 : w2.cell? ⟨gq, 11, none⟩ = some (.slice Bn nBn Bnc) := (blk_cell Q 11).trans rfl
      cases ba with
      | false =>
        go_wp2_with fail
        go_ret
        exact ⟨rfl, B⟩
      | true =>
        go_wp2_with fail
        refine (KN.out _ B).mono ?_
        rintro e w3 ⟨rfl, hb⟩
        replace B := B.trans (hb.mono B.size)
        replace P := blk_below P hb
        replace Q := blk_below Q hb
        clear hb p11 q11
        have p12 : w3.cell? ⟨gp, 12, none⟩ = some (.slice Ar nAr Arc) := (blk_cell P 12).trans rfl
        have q12 : w3.cell? ⟨gq, 12, none⟩ = some (.slice Br nBr Brc) := (blk_cell Q 12).trans rfl
        cases bn with
        | false =>
          go_wp2_with fail
          go_ret
          exact ⟨rfl, B⟩
        | true =>
          go_wp2_with fail
          refine (KR.out _ B).mono ?_
          rintro e w4 ⟨rfl, hb⟩
          replace B := B.trans (hb.mono B.size)
          go_wp2_with fail
          go_ret
          exact ⟨rfl, B⟩
/-- With the message that was written: the same; with one that was cut short: something. -/
theorem sameX {W : World} {g : Got} (hl : g.qs.length ≤ 64 ∧ g.an.length ≤ 64 ∧ g.ns.length ≤ 64 ∧ g.ar.length ≤ 64) {Aq Aa An Ar Bq Ba Bn Br : Option Addr} {Aqc Aac Anc Arc Bqc Bac Bnc Brc : Nat} (t2 : Bool)
    (h : Holds W g (.slice Aq g.qs.length Aqc) (.slice Aa g.an.length Aac) (.slice An g.ns.length Anc) (.slice Ar g.ar.length Arc))
    {qs : List S40} {an ns ar : List S53} (eq : g.qs = qs.map mQ) (hs : (g.h.tc = t2 ∧ g.an = an.map mR ∧ g.ns = ns.map mR ∧ g.ar = ar.map mR) ∨ (g.an = [] ∧ g.ns = [] ∧ g.ar = []))
    (k1 : Kd.C k40 W Bq qs.length qs) (l1 : qs.length ≤ Bqc) (k2 : Kd.C k53 W Ba an.length an) (l2 : an.length ≤ Bac) (k3 : Kd.C k53 W Bn ns.length ns) (l3 : ns.length ≤ Bnc) (k4 : Kd.C k53 W Br ar.length ar) (l4 : ar.length ≤ Brc) :
    ∃ b : Bool, ((g.h.tc = t2 ∧ g.an = an.map mR ∧ g.ns = ns.map mR ∧ g.ar = ar.map mR) → b = true) ∧ Calls Try.prog 20 #[.agg #[.int .i64 g.h.id, .bool g.h.qr, .int .i64 g.h.op, .bool g.h.aa, .bool g.h.tc, .bool g.h.rd, .bool g.h.ra, .int .i64 g.h.z, .int .i64 g.h.rc, .slice Aq g.qs.length Aqc, .slice Aa g.an.length Aac, .slice An g.ns.length Anc, .slice Ar g.ar.length Arc], .agg #[.int .i64 g.h.id, .bool g.h.qr, .int .i64 g.h.op, .bool g.h.aa, .bool t2, .bool g.h.rd, .bool g.h.ra, .int .i64 g.h.z, .int .i64 g.h.rc, .slice Bq qs.length Bqc, .slice Ba an.length Bac, .slice Bn ns.length Bnc, .slice Br ar.length Brc]] W fun e w' => e = .returned (.bool b) ∧ Below W.heap.size W w' := by
  have e1 : g.qs.map sQ = qs := by rw [eq, sQw]
  have row : ∀ (L : List Rr) (A : Option Addr) (c : Nat) (l : List S53) (D : Option Addr) (d : Nat), W.ownsRow 0 53 5 (.slice A L.length c) L.length (cellsR L) → L.length ≤ 64 → (L = l.map mR ∨ L = []) → Kd.C k53 W D l.length l → l.length ≤ d →
      ∃ b : Bool, (L = l.map mR → b = true) ∧ ∀ W', Below W.heap.size W W' → Calls Try.prog 44 #[.slice A L.length c, .slice D l.length d] W' fun e w' => e = .returned (.bool b) ∧ Below W'.heap.size W' w' := by
    intro L A c l D d hL hz hc hD hd
    obtain ⟨b, hb, K, hK⟩ : ∃ b : Bool, (L = l.map mR → b = true) ∧ Ev (fun k => wimplelaw0_SameRrs.f k (L.map sR) l) b := by
      by_cases e : L = l.map mR
      · refine ⟨true, fun _ => rfl, ?_⟩
        have e2 : L.map sR = l := by rw [e, sRw]
        rw [e2]
        exact sameR l (by have := congrArg List.length e; rw [List.length_map] at this; omega)
      · rcases hc with hc | rfl
        · exact absurd hc e
        · obtain ⟨b, hb⟩ := nilR l
          exact ⟨b, fun h => absurd h e, hb⟩
    refine ⟨b, hb, fun W' hW => ?_⟩
    have hL' := Sl.own_below hL hW
    have := (wimplelaw0_SameRrs.calls K A c (L.map sR) D d l b W' (rC hL').2 (by rw [List.length_map]; exact (rC hL').1) (Kd.C_below hD hW) hd (hK K (Nat.le_refl _))).mono fun e w' ⟨h1, h2⟩ => And.intro h1 h2.below
    simpa only [List.length_map] using this
  obtain ⟨ba, ha, ka⟩ := row g.an Aa Aac an Ba Bac h.a hl.2.1 (by rcases hs with hs | hs; exact .inl hs.2.1; exact .inr hs.1) k2 l2
  obtain ⟨bn, hn, kn⟩ := row g.ns An Anc ns Bn Bnc h.n hl.2.2.1 (by rcases hs with hs | hs; exact .inl hs.2.2.1; exact .inr hs.2.1) k3 l3
  obtain ⟨br, hr, kr⟩ := row g.ar Ar Arc ar Br Brc h.r hl.2.2.2 (by rcases hs with hs | hs; exact .inl hs.2.2.2; exact .inr hs.2.2) k4 l4
  have c := sameMsgC g.h ⟨g.h.id, g.h.qr, g.h.op, g.h.aa, t2, g.h.rd, g.h.ra, g.h.z, g.h.rc⟩ Aq Aa An Ar Bq Ba Bn Br g.qs.length Aqc g.an.length Aac g.ns.length Anc g.ar.length Arc qs.length Bqc an.length Bac ns.length Bnc ar.length Brc _ true ba bn br rfl W
    (fun W' hW => sameQc hl.1 eq (Sl.own_below h.q hW) (Kd.C_below k1 hW) l1) ka kn kr
  refine ⟨_, ?_, c⟩
  rintro ⟨h1, h2, h3, h4⟩
  rw [ha h2, hn h3, hr h4, Hd.eqB_of (show g.h = ⟨g.h.id, g.h.qr, g.h.op, g.h.aa, t2, g.h.rd, g.h.ra, g.h.z, g.h.rc⟩ by rw [← h1])]
  rfl
end Go.Proofs.Ytjklgdpffmaamaa.SameAny
