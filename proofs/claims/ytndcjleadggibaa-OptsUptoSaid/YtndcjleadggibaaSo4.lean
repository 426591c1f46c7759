/- Parts of the proof, put together by a program of this session. -/
import Derived.Test.YtndcjleadggibaaSo1
import Derived.Test.YtndcjleadggibaaSo2
import Derived.Test.YtndcjleadggibaaSo3
namespace Go.Proofs.Ytndcjleadggibaa.POz
open Go.RowKit Go.Proofs.YtndcjleadggibaaW.PrintWords Go.Proofs.YtndcjleadggibaaW.PrintLast Go.Proofs.YtndcjleadggibaaW.PrintMore
attribute [local go_sem] max2_int min2_int max_two min_two max_three min_three max_four min_four   -- for this text's walks alone
set_option linter.unusedVariables false
set_option linter.unusedSimpArgs false

/-! ### wimpleref4_GetOpt: function 17 -/
mutual
def wimpleref4_GetOpt.j0 : Nat → Bool → ByteArray → Int → Int → Int → ByteArray → Option (Int × Int × Int × Bool × Int × (List (S52)) × Int)
  | 0, _, _, _, _, _, _ => none
  | k + 1, x37, x173000, x173001, x173002, x173003, x173004 => if x37 = true then (some (0, 0, 0, false, 0, ([] : List (S52)), 800)) else (wimpleref4_GetOpt.l0 k 0 x173000 x173001 x173002 x173003 x173004 x173002 (x173003 / 16777216) (Go.bits .and .i64 (x173003 / 65536) 255) ((Go.bits .and .i64 (x173003 / 32768) 1) == 1) (Go.bits .and .i64 x173003 32767) ([] : List (S52)))
def wimpleref4_GetOpt.l0 : Nat → Int → ByteArray → Int → Int → Int → ByteArray → Int → Int → Int → Bool → Int → List (S52) → Option (Int × Int × Int × Bool × Int × (List (S52)) × Int)
  | 0, _, _, _, _, _, _, _, _, _, _, _, _ => none
  | k + 1, x5, x173000, x173001, x173002, x173003, x173004, x177000, x177001, x177002, x177003, x177004, x177005 => if x5 < (x173004.size : Int) then ((wimpleref1_Num.f k x173004 x5 2).bind fun bt177 => ((wimpleref1_Num.f k x173004 bt177.2.1 2).bind fun bt180 => (if bt177.2.2 = 0 then (if bt180.2.2 = 0 then (if bt180.1 > (wrap64 ((x173004.size : Int) - bt180.2.1)) then (some (0, 0, 0, false, 0, ([] : List (S52)), 800)) else (if 0 ≤ bt180.2.1 then (if bt180.2.1 ≤ (wrap64 (bt180.2.1 + bt180.1)) then (if (wrap64 (bt180.2.1 + bt180.1)) ≤ (x173004.size : Int) then (if x177005.length < 5864062014805 then (wimpleref4_GetOpt.l0 k (wrap64 (bt180.2.1 + bt180.1)) x173000 x173001 x173002 x173003 x173004 x177000 x177001 x177002 x177003 x177004 (x177005 ++ [(⟨bt177.1, x173004.extract (bt180.2.1 : Int).toNat ((wrap64 (bt180.2.1 + bt180.1)) : Int).toNat⟩ : S52)])) else (none)) else (none)) else (none)) else (none))) else (some (0, 0, 0, false, 0, ([] : List (S52)), 800))) else (some (0, 0, 0, false, 0, ([] : List (S52)), 800))))) else (some (x177000, x177001, x177002, x177003, x177004, x177005, 0))
end
def wimpleref4_GetOpt.f (k : Nat) (a0_0 : ByteArray) (a0_1 : Int) (a0_2 : Int) (a0_3 : Int) (a0_4 : ByteArray) : Option (Int × Int × Int × Bool × Int × (List (S52)) × Int) := if a0_0.toList = ([0] : List UInt8) then (if a0_1 = 41 then ((wimpleref4_short.f a0_2).bind fun t174 => (if t174 = true then ((wimpleref4_wide.f a0_3).bind fun t175 => (if t175 = true then (wimpleref4_GetOpt.j0 k (decide ((a0_4.size : Int) > 65535)) a0_0 a0_1 a0_2 a0_3 a0_4) else (wimpleref4_GetOpt.j0 k true a0_0 a0_1 a0_2 a0_3 a0_4))) else (wimpleref4_GetOpt.j0 k true a0_0 a0_1 a0_2 a0_3 a0_4))) else (wimpleref4_GetOpt.j0 k true a0_0 a0_1 a0_2 a0_3 a0_4)) else (wimpleref4_GetOpt.j0 k true a0_0 a0_1 a0_2 a0_3 a0_4)
def wimpleref4_GetOpt.T10 : Bool × List (List Nat × List Nat) := (true, [([], []), ([0], [0]), ([], []), ([], []), ([3], [3]), ([], []), ([], []), ([], []), ([6, 7], [6, 7]), ([4, 5, 8], [4, 5, 8]), ([2, 9], [2, 9]), ([10], [10]), ([1, 11], [1, 11]), ([0, 1, 2, 3, 4, 5, 6, 7, 8, 9, 10, 11, 12], []), ([13, 12, 12, 0, 1, 2, 3, 4, 5, 6, 7, 8, 9, 10, 11, 12], [12, 13])])
def wimpleref4_GetOpt.B10 : List Nat := [0, 1, 0, 0, 8, 0, 0, 0, 192, 504, 1020, 2044, 4095, 8191, 16383]
theorem wimpleref4_GetOpt.tab10 : rtab .any (opsOf Try.f17 10) = wimpleref4_GetOpt.T10 := by kernel_rfl
theorem wimpleref4_GetOpt.bits10 : waitsOk wimpleref4_GetOpt.T10.2 wimpleref4_GetOpt.B10 = true := by kernel_rfl
set_option maxHeartbeats 8000000 in
set_option maxRecDepth 100000 in
theorem wimpleref4_GetOpt.calls (k : Nat) (a0_0 : ByteArray) (a0_1 : Int) (a0_2 : Int) (a0_3 : Int) (a0_4 : ByteArray) (r1 : Int) (r2 : Int) (r3 : Int) (r4 : Bool) (r5 : Int) (r6 : List (S52)) (r7 : Int) (w : World) (h : wimpleref4_GetOpt.f k a0_0 a0_1 a0_2 a0_3 a0_4 = some (r1, r2, r3, r4, r5, r6, r7)) :
    Calls Try.prog 17 #[.agg #[.string a0_0, .int .i64 a0_1, .int .i64 a0_2, .int .i64 a0_3, .string a0_4]] w fun e w' => ∃ v5_ : Value, e = .returned (.tuple #[.agg #[.int .i64 r1, .int .i64 r2, .int .i64 r3, .bool r4, .int .i64 r5, v5_], .int .i64 r7]) ∧ Kd.R k52 52 w' w.heap.size (fun _ => True) v5_ r6 ∧ Below w.heap.size w w' := by
  have hu26 := Try.underlying26
  have hu24 := Try.underlying24
  have hu52 := Try.underlying52
  have HB := Aside0.mk (Below.refl w.heap.size w)
  have H : (if a0_0.toList = ([0] : List UInt8) then (if a0_1 = 41 then ((wimpleref4_short.f a0_2).bind fun t174 => (if t174 = true then ((wimpleref4_wide.f a0_3).bind fun t175 => (if t175 = true then (wimpleref4_GetOpt.j0 k (decide ((a0_4.size : Int) > 65535)) a0_0 a0_1 a0_2 a0_3 a0_4) else (wimpleref4_GetOpt.j0 k true a0_0 a0_1 a0_2 a0_3 a0_4))) else (wimpleref4_GetOpt.j0 k true a0_0 a0_1 a0_2 a0_3 a0_4))) else (wimpleref4_GetOpt.j0 k true a0_0 a0_1 a0_2 a0_3 a0_4)) else (wimpleref4_GetOpt.j0 k true a0_0 a0_1 a0_2 a0_3 a0_4)) = some (r1, r2, r3, r4, r5, r6, r7) := h
  clear h
  have HC2 := Aside0.mk H
  clear H
  go_enter Try.func17, Try.ntmps17
  go_upto_region 1 with (first | ((with_reducible refine gate_dst (N := 1) rfl ?_); (try (refine gate_guard (by rfl) ?_; dsimp only)); refine box_event ?hg (N := 1) ?hd (cs := #[.string a0_0, .int .i64 a0_1, .int .i64 a0_2, .int .i64 a0_3, .string a0_4]) (t := 26) ?hr ?_; (case hd => rfl); (case hg => rfl); (case hr => first | (go_simp; done) | (go_simp; rfl)); intro gb172 hg w3 hbox hb; have n0_ := Aside0.mk (below_step (by repeat (first | (with_reducible first | exact HB.out | apply below_alloc | apply pw_below_drewN | apply below_drew1) | exact HB.out)) hb); have n1_ := Aside0.mk (hbox); have n2_ := Aside0.mk ((by rw [hg]; exact (below_size (by repeat (first | (with_reducible first | exact HB.out | apply below_alloc | apply pw_below_drewN | apply below_drew1) | exact HB.out))) : w.heap.size ≤ gb172)); have n3_ := Aside0.mk ((by rw [hg]; exact (below_size (by repeat (first | (with_reducible first | exact HB.out | apply below_alloc | apply pw_below_drewN | apply below_drew1) | exact HB.out))) : w.heap.size ≤ gb172)); clear HB; have HB := n0_; have BK172 := n1_; have GW172 := n2_; have GE172 := n3_; clear n0_ n1_ n2_ n3_; clear hb hbox hg) | ((with_reducible refine gate_dst (N := 2) rfl ?_); (try (refine gate_guard (by rfl) ?_; dsimp only)); refine box_event ?hg (N := 2) ?hd (cs := #[.int .i64 0, .int .i64 0, .int .i64 0, .bool false, .int .i64 0, .slice none 0 0]) (t := 24) ?hr ?_; (case hd => rfl); (case hg => rfl); (case hr => first | (go_simp; done) | (go_simp; rfl)); intro gb173 hg w4 hbox hb; have n0_ := Aside0.mk (blk_below (g := gb172) (o := .cells #[.string a0_0, .int .i64 a0_1, .int .i64 a0_2, .int .i64 a0_3, .string a0_4] 26 (0, 0)) (by (with_reducible repeat (first | refine blk_drewN ?_ _ | refine blk_drew ?_ | refine blk_alloc ?_ _)); exact BK172.out) hb); have n1_ := Aside0.mk (below_step (by repeat (first | (with_reducible first | exact HB.out | apply below_alloc | apply pw_below_drewN | apply below_drew1 | refine below_set ?_ GE172.out) | exact HB.out)) hb); have n2_ := Aside0.mk (hbox); have n3_ := Aside0.mk ((by rw [hg]; exact (below_size (by repeat (first | (with_reducible first | exact HB.out | apply below_alloc | apply pw_below_drewN | apply below_drew1 | refine below_set ?_ GE172.out) | exact HB.out))) : w.heap.size ≤ gb173)); have n4_ := Aside0.mk ((by rw [hg]; exact (below_size (by repeat (first | (with_reducible first | exact HB.out | apply below_alloc | apply pw_below_drewN | apply below_drew1 | refine below_set ?_ GE172.out) | exact HB.out))) : w.heap.size ≤ gb173)); have n5_ := Aside0.mk ((by rw [hg]; exact Nat.ne_of_lt (blk_lt (g := gb172) (o := .cells #[.string a0_0, .int .i64 a0_1, .int .i64 a0_2, .int .i64 a0_3, .string a0_4] 26 (0, 0)) (by (with_reducible repeat (first | refine blk_drewN ?_ _ | refine blk_drew ?_ | refine blk_alloc ?_ _)); exact BK172.out)) : gb172 ≠ gb173)); have n6_ := Aside0.mk ((by rw [hg]; exact Nat.ne_of_gt (blk_lt (g := gb172) (o := .cells #[.string a0_0, .int .i64 a0_1, .int .i64 a0_2, .int .i64 a0_3, .string a0_4] 26 (0, 0)) (by (with_reducible repeat (first | refine blk_drewN ?_ _ | refine blk_drew ?_ | refine blk_alloc ?_ _)); exact BK172.out)) : gb173 ≠ gb172)); clear BK172; clear HB; have BK172 := n0_; have HB := n1_; have BK173 := n2_; have GW173 := n3_; have GE173 := n4_; have NB172_173 := n5_; have NB173_172 := n6_; clear n0_ n1_ n2_ n3_ n4_ n5_ n6_; clear hb hbox hg))
  (try simp only [Act.put, List.setIfInBounds_toArray, List.set_cons_zero, List.set_cons_succ])
  go_cut [37] (fun v37 wc => ∃ (kq : Nat) (x37_1 : Bool), v37 = .bool x37_1 ∧ Aside0 (wimpleref4_GetOpt.j0 kq x37_1 a0_0 a0_1 a0_2 a0_3 a0_4 = some (r1, r2, r3, r4, r5, r6, r7)) ∧ Aside0 (kq ≤ k) ∧ Aside0 (wc.heap[gb172]? = some (.cells #[.string a0_0, .int .i64 a0_1, .int .i64 a0_2, .int .i64 a0_3, .string a0_4] 26 (0, 0))) ∧ Aside0 (wc.heap[gb173]? = some (.cells #[.int .i64 0, .int .i64 0, .int .i64 0, .bool false, .int .i64 0, (.slice none 0 0)] 24 (0, 0))) ∧ Aside0 (Below w.heap.size w wc))
  case first =>
    have H := HC2.out
    clear HC2
    by_cases c5 : a0_0.toList = ([0] : List UInt8)
    · rw [if_pos c5] at H
      have c5b0 : (a0_0.toList == ([0] : List UInt8)) = true := beq_iff_eq.mpr c5
      have c5b1 : (a0_0.toList != ([0] : List UInt8)) = false := bne_eq_false_iff_eq.mpr c5
      clear c5
      (first | rw [c5b0] | (simp only [i64_w, i32_w]; rw [c5b0]) | skip)
      by_cases c6 : a0_1 = 41
      · rw [if_pos c6] at H
        have c6b0 : (a0_1 == 41) = true := beq_iff_eq.mpr c6
        have c6b1 : (a0_1 != 41) = false := bne_eq_false_iff_eq.mpr c6
        clear c6
        replace H := Option.bind_eq_some_iff.mp H
        obtain ⟨t174, A70, H⟩ := H
        replace H : (if t174 = true then ((wimpleref4_wide.f a0_3).bind fun t175 => (if t175 = true then (wimpleref4_GetOpt.j0 k (decide ((a0_4.size : Int) > 65535)) a0_0 a0_1 a0_2 a0_3 a0_4) else (wimpleref4_GetOpt.j0 k true a0_0 a0_1 a0_2 a0_3 a0_4))) else (wimpleref4_GetOpt.j0 k true a0_0 a0_1 a0_2 a0_3 a0_4)) = some (r1, r2, r3, r4, r5, r6, r7) := H
        have A7 := Aside0.mk A70
        clear A70
        by_cases c8 : t174 = true
        · subst c8
          have H1 : ((wimpleref4_wide.f a0_3).bind fun t175 => (if t175 = true then (wimpleref4_GetOpt.j0 k (decide ((a0_4.size : Int) > 65535)) a0_0 a0_1 a0_2 a0_3 a0_4) else (wimpleref4_GetOpt.j0 k true a0_0 a0_1 a0_2 a0_3 a0_4))) = some (r1, r2, r3, r4, r5, r6, r7) := by rw [if_pos rfl] at H; exact H
          clear H
          have H := H1
          clear H1
          replace H := Option.bind_eq_some_iff.mp H
          obtain ⟨t175, A90, H⟩ := H
          replace H : (if t175 = true then (wimpleref4_GetOpt.j0 k (decide ((a0_4.size : Int) > 65535)) a0_0 a0_1 a0_2 a0_3 a0_4) else (wimpleref4_GetOpt.j0 k true a0_0 a0_1 a0_2 a0_3 a0_4)) = some (r1, r2, r3, r4, r5, r6, r7) := H
          have A9 := Aside0.mk A90
          clear A90
          by_cases c10 : t175 = true
          · subst c10
            have H1 : (wimpleref4_GetOpt.j0 k (decide ((a0_4.size : Int) > 65535)) a0_0 a0_1 a0_2 a0_3 a0_4) = some (r1, r2, r3, r4, r5, r6, r7) := by rw [if_pos rfl] at H; exact H
            clear H
            have H := H1
            clear H1
            have H' := Aside0.mk H
            clear H
            have hnb11 := NB172_173.out
            have hnc11 := NB173_172.out
            (try clear hcz56_0 hcz56_1 hcz56_2 hcz56_3 hcz56_4 hcz56_5 hfz56_0 hfz56_1 hfz56_2 hfz56_3 hfz56_4 hfz56_5)
            (try clear hcz60_0 hcz60_1 hcz60_2 hcz60_3 hcz60_4 hfz60_0 hfz60_1 hfz60_2 hfz60_3 hfz60_4)
            (try clear hcz62_0 hcz62_1 hcz62_2 hcz62_3 hcz62_4 hfz62_0 hfz62_1 hfz62_2 hfz62_3 hfz62_4)
            (try clear hcz63_0 hcz63_1 hcz63_2 hcz63_3 hcz63_4 hcz63_5 hfz63_0 hfz63_1 hfz63_2 hfz63_3 hfz63_4 hfz63_5)
            (try clear hcz67_0 hcz67_1 hcz67_2 hcz67_3 hcz67_4 hfz67_0 hfz67_1 hfz67_2 hfz67_3 hfz67_4)
            (try clear hcz69_0 hcz69_1 hcz69_2 hcz69_3 hcz69_4 hcz69_5 hfz69_0 hfz69_1 hfz69_2 hfz69_3 hfz69_4 hfz69_5)
            have hcz12_0 : w4.cell? ⟨gb172, 0, none⟩ = some (.string a0_0) := (blk_cell BK172.out 0).trans rfl
            have hcz12_1 : w4.cell? ⟨gb172, 1, none⟩ = some (.int .i64 a0_1) := (blk_cell BK172.out 1).trans rfl
            have hcz12_2 : w4.cell? ⟨gb172, 2, none⟩ = some (.int .i64 a0_2) := (blk_cell BK172.out 2).trans rfl
            have hcz12_3 : w4.cell? ⟨gb172, 3, none⟩ = some (.int .i64 a0_3) := (blk_cell BK172.out 3).trans rfl
            have hcz12_4 : w4.cell? ⟨gb172, 4, none⟩ = some (.string a0_4) := (blk_cell BK172.out 4).trans rfl
            have hfz12_0 := blk_frozen BK172.out 0
            have hfz12_1 := blk_frozen BK172.out 1
            have hfz12_2 := blk_frozen BK172.out 2
            have hfz12_3 := blk_frozen BK172.out 3
            have hfz12_4 := blk_frozen BK172.out 4
            go_wp2_with (first | (go_at_call 48; (with_reducible refine (wimpleref4_short.calls a0_2 true _ A7.out).mono ?_); rintro e w' ⟨rfl, ⟨nd, rfl⟩⟩) | (go_at_call 52; (with_reducible refine (wimpleref4_wide.calls a0_3 true _ A9.out).mono ?_); rintro e w' ⟨rfl, ⟨nd, rfl⟩⟩))
            go_meet
            case rel => exact ⟨_, (decide ((a0_4.size : Int) > 65535)), (by first | rfl | (simp; done) | (simp [*]; done)), H', ⟨by first | omega | exact Nat.le_refl _⟩, ⟨by (with_reducible repeat (first | refine blk_drewN ?_ _ | refine blk_drew ?_ | refine blk_alloc ?_ _)); exact BK172.out⟩, ⟨by (with_reducible repeat (first | refine blk_drewN ?_ _ | refine blk_drew ?_ | refine blk_alloc ?_ _)); exact BK173.out⟩, ⟨by repeat (first | (with_reducible first | exact HB.out | apply below_alloc | apply pw_below_drewN | apply below_drew1 | refine below_set ?_ GE172.out | refine below_set ?_ GE173.out) | exact HB.out)⟩⟩
          · replace c10 := Bool.eq_false_iff.mpr c10
            subst c10
            have H1 : (wimpleref4_GetOpt.j0 k true a0_0 a0_1 a0_2 a0_3 a0_4) = some (r1, r2, r3, r4, r5, r6, r7) := by rw [if_neg (show ¬ (false = true) by decide)] at H; exact H
            clear H
            have H := H1
            clear H1
            have H' := Aside0.mk H
            clear H
            have hnb13 := NB172_173.out
            have hnc13 := NB173_172.out
            (try clear hcz60_0 hcz60_1 hcz60_2 hcz60_3 hcz60_4 hfz60_0 hfz60_1 hfz60_2 hfz60_3 hfz60_4)
            (try clear hcz62_0 hcz62_1 hcz62_2 hcz62_3 hcz62_4 hfz62_0 hfz62_1 hfz62_2 hfz62_3 hfz62_4)
            (try clear hcz63_0 hcz63_1 hcz63_2 hcz63_3 hcz63_4 hcz63_5 hfz63_0 hfz63_1 hfz63_2 hfz63_3 hfz63_4 hfz63_5)
            (try clear hcz67_0 hcz67_1 hcz67_2 hcz67_3 hcz67_4 hfz67_0 hfz67_1 hfz67_2 hfz67_3 hfz67_4)
            (try clear hcz69_0 hcz69_1 hcz69_2 hcz69_3 hcz69_4 hcz69_5 hfz69_0 hfz69_1 hfz69_2 hfz69_3 hfz69_4 hfz69_5)
            have hcz14_0 : w4.cell? ⟨gb172, 0, none⟩ = some (.string a0_0) := (blk_cell BK172.out 0).trans rfl
            have hcz14_1 : w4.cell? ⟨gb172, 1, none⟩ = some (.int .i64 a0_1) := (blk_cell BK172.out 1).trans rfl
            have hcz14_2 : w4.cell? ⟨gb172, 2, none⟩ = some (.int .i64 a0_2) := (blk_cell BK172.out 2).trans rfl
            have hcz14_3 : w4.cell? ⟨gb172, 3, none⟩ = some (.int .i64 a0_3) := (blk_cell BK172.out 3).trans rfl
            have hcz14_4 : w4.cell? ⟨gb172, 4, none⟩ = some (.string a0_4) := (blk_cell BK172.out 4).trans rfl
            have hfz14_0 := blk_frozen BK172.out 0
            have hfz14_1 := blk_frozen BK172.out 1
            have hfz14_2 := blk_frozen BK172.out 2
            have hfz14_3 := blk_frozen BK172.out 3
            have hfz14_4 := blk_frozen BK172.out 4
            go_wp2_with (first | (go_at_call 48; (with_reducible refine (wimpleref4_short.calls a0_2 true _ A7.out).mono ?_); rintro e w' ⟨rfl, ⟨nd, rfl⟩⟩) | (go_at_call 52; (with_reducible refine (wimpleref4_wide.calls a0_3 false _ A9.out).mono ?_); rintro e w' ⟨rfl, ⟨nd, rfl⟩⟩))
            go_meet
            case rel => exact ⟨_, (true), (by first | rfl | (simp; done) | (simp [*]; done)), H', ⟨by first | omega | exact Nat.le_refl _⟩, ⟨by (with_reducible repeat (first | refine blk_drewN ?_ _ | refine blk_drew ?_ | refine blk_alloc ?_ _)); exact BK172.out⟩, ⟨by (with_reducible repeat (first | refine blk_drewN ?_ _ | refine blk_drew ?_ | refine blk_alloc ?_ _)); exact BK173.out⟩, ⟨by repeat (first | (with_reducible first | exact HB.out | apply below_alloc | apply pw_below_drewN | apply below_drew1 | refine below_set ?_ GE172.out | refine below_set ?_ GE173.out) | exact HB.out)⟩⟩
        · replace c8 := Bool.eq_false_iff.mpr c8
          subst c8
          have H1 : (wimpleref4_GetOpt.j0 k true a0_0 a0_1 a0_2 a0_3 a0_4) = some (r1, r2, r3, r4, r5, r6, r7) := by rw [if_neg (show ¬ (false = true) by decide)] at H; exact H
          clear H
          have H := H1
          clear H1
          have H' := Aside0.mk H
          clear H
          have hnb15 := NB172_173.out
          have hnc15 := NB173_172.out
          (try clear hcz62_0 hcz62_1 hcz62_2 hcz62_3 hcz62_4 hfz62_0 hfz62_1 hfz62_2 hfz62_3 hfz62_4)
          (try clear hcz63_0 hcz63_1 hcz63_2 hcz63_3 hcz63_4 hcz63_5 hfz63_0 hfz63_1 hfz63_2 hfz63_3 hfz63_4 hfz63_5)
          (try clear hcz67_0 hcz67_1 hcz67_2 hcz67_3 hcz67_4 hfz67_0 hfz67_1 hfz67_2 hfz67_3 hfz67_4)
          (try clear hcz69_0 hcz69_1 hcz69_2 hcz69_3 hcz69_4 hcz69_5 hfz69_0 hfz69_1 hfz69_2 hfz69_3 hfz69_4 hfz69_5)
          have hcz16_0 : w4.cell? ⟨gb172, 0, none⟩ = some (.string a0_0) := (blk_cell BK172.out 0).trans rfl
          have hcz16_1 : w4.cell? ⟨gb172, 1, none⟩ = some (.int .i64 a0_1) := (blk_cell BK172.out 1).trans rfl
          have hcz16_2 : w4.cell? ⟨gb172, 2, none⟩ = some (.int .i64 a0_2) := (blk_cell BK172.out 2).trans rfl
          have hcz16_3 : w4.cell? ⟨gb172, 3, none⟩ = some (.int .i64 a0_3) := (blk_cell BK172.out 3).trans rfl
          have hcz16_4 : w4.cell? ⟨gb172, 4, none⟩ = some (.string a0_4) := (blk_cell BK172.out 4).trans rfl
          have hfz16_0 := blk_frozen BK172.out 0
          have hfz16_1 := blk_frozen BK172.out 1
          have hfz16_2 := blk_frozen BK172.out 2
          have hfz16_3 := blk_frozen BK172.out 3
          have hfz16_4 := blk_frozen BK172.out 4
          go_wp2_with (first | (go_at_call 48; (with_reducible refine (wimpleref4_short.calls a0_2 false _ A7.out).mono ?_); rintro e w' ⟨rfl, ⟨nd, rfl⟩⟩))
          go_meet
          case rel => exact ⟨_, (true), (by first | rfl | (simp; done) | (simp [*]; done)), H', ⟨by first | omega | exact Nat.le_refl _⟩, ⟨by (with_reducible repeat (first | refine blk_drewN ?_ _ | refine blk_drew ?_ | refine blk_alloc ?_ _)); exact BK172.out⟩, ⟨by (with_reducible repeat (first | refine blk_drewN ?_ _ | refine blk_drew ?_ | refine blk_alloc ?_ _)); exact BK173.out⟩, ⟨by repeat (first | (with_reducible first | exact HB.out | apply below_alloc | apply pw_below_drewN | apply below_drew1 | refine below_set ?_ GE172.out | refine below_set ?_ GE173.out) | exact HB.out)⟩⟩
      · rw [if_neg c6] at H
        have c6b0 : (a0_1 == 41) = false := beq_eq_false_iff_ne.mpr c6
        have c6b1 : (a0_1 != 41) = true := bne_iff_ne.mpr c6
        have H' := Aside0.mk H
        clear H
        have hnb17 := NB172_173.out
        have hnc17 := NB173_172.out
        (try clear hcz63_0 hcz63_1 hcz63_2 hcz63_3 hcz63_4 hcz63_5 hfz63_0 hfz63_1 hfz63_2 hfz63_3 hfz63_4 hfz63_5)
        (try clear hcz67_0 hcz67_1 hcz67_2 hcz67_3 hcz67_4 hfz67_0 hfz67_1 hfz67_2 hfz67_3 hfz67_4)
        (try clear hcz69_0 hcz69_1 hcz69_2 hcz69_3 hcz69_4 hcz69_5 hfz69_0 hfz69_1 hfz69_2 hfz69_3 hfz69_4 hfz69_5)
        have hcz18_0 : w4.cell? ⟨gb172, 0, none⟩ = some (.string a0_0) := (blk_cell BK172.out 0).trans rfl
        have hcz18_1 : w4.cell? ⟨gb172, 1, none⟩ = some (.int .i64 a0_1) := (blk_cell BK172.out 1).trans rfl
        have hcz18_2 : w4.cell? ⟨gb172, 2, none⟩ = some (.int .i64 a0_2) := (blk_cell BK172.out 2).trans rfl
        have hcz18_3 : w4.cell? ⟨gb172, 3, none⟩ = some (.int .i64 a0_3) := (blk_cell BK172.out 3).trans rfl
        have hcz18_4 : w4.cell? ⟨gb172, 4, none⟩ = some (.string a0_4) := (blk_cell BK172.out 4).trans rfl
        have hfz18_0 := blk_frozen BK172.out 0
        have hfz18_1 := blk_frozen BK172.out 1
        have hfz18_2 := blk_frozen BK172.out 2
        have hfz18_3 := blk_frozen BK172.out 3
        have hfz18_4 := blk_frozen BK172.out 4
        go_wp2
        go_meet
        case rel => exact ⟨_, (true), (by first | rfl | (simp; done) | (simp [*]; done)), H', ⟨by first | omega | exact Nat.le_refl _⟩, ⟨by (with_reducible repeat (first | refine blk_drewN ?_ _ | refine blk_drew ?_ | refine blk_alloc ?_ _)); exact BK172.out⟩, ⟨by (with_reducible repeat (first | refine blk_drewN ?_ _ | refine blk_drew ?_ | refine blk_alloc ?_ _)); exact BK173.out⟩, ⟨by repeat (first | (with_reducible first | exact HB.out | apply below_alloc | apply pw_below_drewN | apply below_drew1 | refine below_set ?_ GE172.out | refine below_set ?_ GE173.out) | exact HB.out)⟩⟩
    · rw [if_neg c5] at H
      have c5b0 : (a0_0.toList == ([0] : List UInt8)) = false := beq_eq_false_iff_ne.mpr c5
      have c5b1 : (a0_0.toList != ([0] : List UInt8)) = true := bne_iff_ne.mpr c5
      (first | rw [c5b0] | (simp only [i64_w, i32_w]; rw [c5b0]) | skip)
      have H' := Aside0.mk H
      clear H
      have hnb19 := NB172_173.out
      have hnc19 := NB173_172.out
      (try clear hcz67_0 hcz67_1 hcz67_2 hcz67_3 hcz67_4 hfz67_0 hfz67_1 hfz67_2 hfz67_3 hfz67_4)
      (try clear hcz69_0 hcz69_1 hcz69_2 hcz69_3 hcz69_4 hcz69_5 hfz69_0 hfz69_1 hfz69_2 hfz69_3 hfz69_4 hfz69_5)
      have hcz20_0 : w4.cell? ⟨gb172, 0, none⟩ = some (.string a0_0) := (blk_cell BK172.out 0).trans rfl
      have hcz20_1 : w4.cell? ⟨gb172, 1, none⟩ = some (.int .i64 a0_1) := (blk_cell BK172.out 1).trans rfl
      have hcz20_2 : w4.cell? ⟨gb172, 2, none⟩ = some (.int .i64 a0_2) := (blk_cell BK172.out 2).trans rfl
      have hcz20_3 : w4.cell? ⟨gb172, 3, none⟩ = some (.int .i64 a0_3) := (blk_cell BK172.out 3).trans rfl
      have hcz20_4 : w4.cell? ⟨gb172, 4, none⟩ = some (.string a0_4) := (blk_cell BK172.out 4).trans rfl
      have hfz20_0 := blk_frozen BK172.out 0
      have hfz20_1 := blk_frozen BK172.out 1
      have hfz20_2 := blk_frozen BK172.out 2
      have hfz20_3 := blk_frozen BK172.out 3
      have hfz20_4 := blk_frozen BK172.out 4
      go_wp2
      go_meet
      case rel => exact ⟨_, (true), (by first | rfl | (simp; done) | (simp [*]; done)), H', ⟨by first | omega | exact Nat.le_refl _⟩, ⟨by (with_reducible repeat (first | refine blk_drewN ?_ _ | refine blk_drew ?_ | refine blk_alloc ?_ _)); exact BK172.out⟩, ⟨by (with_reducible repeat (first | refine blk_drewN ?_ _ | refine blk_drew ?_ | refine blk_alloc ?_ _)); exact BK173.out⟩, ⟨by repeat (first | (with_reducible first | exact HB.out | apply below_alloc | apply pw_below_drewN | apply below_drew1 | refine below_set ?_ GE172.out | refine below_set ?_ GE173.out) | exact HB.out)⟩⟩
  case rest =>
    clear HC2
    try clear c1
    try clear p2
    try clear c5
    try clear c5b0
    try clear c5b1
    try clear c6
    try clear c6b0
    try clear c6b1
    try clear c8
    try clear c10
    try clear c11
    try clear c13
    try clear c15
    try clear c17
    try clear c19
    try clear hcz12_0
    try clear hcz12_1
    try clear hcz12_2
    try clear hcz12_3
    try clear hcz12_4
    try clear hcz14_0
    try clear hcz14_1
    try clear hcz14_2
    try clear hcz14_3
    try clear hcz14_4
    try clear hcz16_0
    try clear hcz16_1
    try clear hcz16_2
    try clear hcz16_3
    try clear hcz16_4
    try clear hcz18_0
    try clear hcz18_1
    try clear hcz18_2
    try clear hcz18_3
    try clear hcz18_4
    try clear hcz20_0
    try clear hcz20_1
    try clear hcz20_2
    try clear hcz20_3
    try clear hcz20_4
    try clear hcz56_0
    try clear hcz56_1
    try clear hcz56_2
    try clear hcz56_3
    try clear hcz56_4
    try clear hcz56_5
    try clear hcz60_0
    try clear hcz60_1
    try clear hcz60_2
    try clear hcz60_3
    try clear hcz60_4
    try clear hcz62_0
    try clear hcz62_1
    try clear hcz62_2
    try clear hcz62_3
    try clear hcz62_4
    try clear hcz63_0
    try clear hcz63_1
    try clear hcz63_2
    try clear hcz63_3
    try clear hcz63_4
    try clear hcz63_5
    try clear hcz67_0
    try clear hcz67_1
    try clear hcz67_2
    try clear hcz67_3
    try clear hcz67_4
    try clear hcz69_0
    try clear hcz69_1
    try clear hcz69_2
    try clear hcz69_3
    try clear hcz69_4
    try clear hcz69_5
    try clear hfz12_0
    try clear hfz12_1
    try clear hfz12_2
    try clear hfz12_3
    try clear hfz12_4
    try clear hfz14_0
    try clear hfz14_1
    try clear hfz14_2
    try clear hfz14_3
    try clear hfz14_4
    try clear hfz16_0
    try clear hfz16_1
    try clear hfz16_2
    try clear hfz16_3
    try clear hfz16_4
    try clear hfz18_0
    try clear hfz18_1
    try clear hfz18_2
    try clear hfz18_3
    try clear hfz18_4
    try clear hfz20_0
    try clear hfz20_1
    try clear hfz20_2
    try clear hfz20_3
    try clear hfz20_4
    try clear hfz56_0
    try clear hfz56_1
    try clear hfz56_2
    try clear hfz56_3
    try clear hfz56_4
    try clear hfz56_5
    try clear hfz60_0
    try clear hfz60_1
    try clear hfz60_2
    try clear hfz60_3
    try clear hfz60_4
    try clear hfz62_0
    try clear hfz62_1
    try clear hfz62_2
    try clear hfz62_3
    try clear hfz62_4
    try clear hfz63_0
    try clear hfz63_1
    try clear hfz63_2
    try clear hfz63_3
    try clear hfz63_4
    try clear hfz63_5
    try clear hfz67_0
    try clear hfz67_1
    try clear hfz67_2
    try clear hfz67_3
    try clear hfz67_4
    try clear hfz69_0
    try clear hfz69_1
    try clear hfz69_2
    try clear hfz69_3
    try clear hfz69_4
    try clear hfz69_5
    obtain ⟨kq, x37_1, rfl, HA, HJ1, BK172, BK173, HB⟩ := hcut
    cases kq with
    | zero => exact absurd HA.out (by simp [wimpleref4_GetOpt.j0])
    | succ kj1 =>
      have H := HA.out
      clear HA
      simp only [wimpleref4_GetOpt.j0] at H
      by_cases c21 : x37_1 = true
      · subst c21
        have H1 : (some (0, 0, 0, false, 0, ([] : List (S52)), 800)) = some (r1, r2, r3, r4, r5, r6, r7) := by rw [if_pos rfl] at H; exact H
        clear H
        have H := H1
        clear H1
        simp only [Option.some.injEq, Prod.mk.injEq] at H
        obtain ⟨rfl, rfl, rfl, rfl, rfl, rfl, rfl⟩ := H
        have hnb22 := NB173_172.out
        have hnc22 := NB172_173.out
        (try clear hcz69_0 hcz69_1 hcz69_2 hcz69_3 hcz69_4 hcz69_5 hfz69_0 hfz69_1 hfz69_2 hfz69_3 hfz69_4 hfz69_5)
        (try clear hcz12_0 hcz12_1 hcz12_2 hcz12_3 hcz12_4 hfz12_0 hfz12_1 hfz12_2 hfz12_3 hfz12_4)
        (try clear hcz14_0 hcz14_1 hcz14_2 hcz14_3 hcz14_4 hfz14_0 hfz14_1 hfz14_2 hfz14_3 hfz14_4)
        (try clear hcz16_0 hcz16_1 hcz16_2 hcz16_3 hcz16_4 hfz16_0 hfz16_1 hfz16_2 hfz16_3 hfz16_4)
        (try clear hcz18_0 hcz18_1 hcz18_2 hcz18_3 hcz18_4 hfz18_0 hfz18_1 hfz18_2 hfz18_3 hfz18_4)
        (try clear hcz20_0 hcz20_1 hcz20_2 hcz20_3 hcz20_4 hfz20_0 hfz20_1 hfz20_2 hfz20_3 hfz20_4)
        have hcz23_0 : wc.cell? ⟨gb173, 0, none⟩ = some (.int .i64 0) := (blk_cell BK173.out 0).trans rfl
        have hcz23_1 : wc.cell? ⟨gb173, 1, none⟩ = some (.int .i64 0) := (blk_cell BK173.out 1).trans rfl
        have hcz23_2 : wc.cell? ⟨gb173, 2, none⟩ = some (.int .i64 0) := (blk_cell BK173.out 2).trans rfl
        have hcz23_3 : wc.cell? ⟨gb173, 3, none⟩ = some (.bool false) := (blk_cell BK173.out 3).trans rfl
        have hcz23_4 : wc.cell? ⟨gb173, 4, none⟩ = some (.int .i64 0) := (blk_cell BK173.out 4).trans rfl
        have hcz23_5 : wc.cell? ⟨gb173, 5, none⟩ = some (.slice none 0 0) := (blk_cell BK173.out 5).trans rfl
        have hfz23_0 := blk_frozen BK173.out 0
        have hfz23_1 := blk_frozen BK173.out 1
        have hfz23_2 := blk_frozen BK173.out 2
        have hfz23_3 := blk_frozen BK173.out 3
        have hfz23_4 := blk_frozen BK173.out 4
        have hfz23_5 := blk_frozen BK173.out 5
        go_wp2
        refine bodyPost_ret (results_ct rfl _ _ gb173 24 #[.int .i64 0, .int .i64 0, .int .i64 0, .bool false, .int .i64 0, .slice none 0 0] (0, 0) _ rfl (by (with_reducible repeat (first | refine blk_drewN ?_ _ | refine blk_drew ?_ | refine blk_alloc ?_ _)); refine blk_put (cs := #[.int .i64 0, .int .i64 0, .int .i64 0, .bool false, .int .i64 0, .slice none 0 0]) ?_ 5 _ rfl; (with_reducible repeat (first | refine blk_drewN ?_ _ | refine blk_drew ?_ | refine blk_alloc ?_ _)); refine blk_put (cs := #[.int .i64 0, .int .i64 0, .int .i64 0, .bool false, .int .i64 0, .slice none 0 0]) ?_ 4 _ rfl; (with_reducible repeat (first | refine blk_drewN ?_ _ | refine blk_drew ?_ | refine blk_alloc ?_ _)); refine blk_put (cs := #[.int .i64 0, .int .i64 0, .int .i64 0, .bool false, .int .i64 0, .slice none 0 0]) ?_ 3 _ rfl; (with_reducible repeat (first | refine blk_drewN ?_ _ | refine blk_drew ?_ | refine blk_alloc ?_ _)); refine blk_put (cs := #[.int .i64 0, .int .i64 0, .int .i64 0, .bool false, .int .i64 0, .slice none 0 0]) ?_ 2 _ rfl; (with_reducible repeat (first | refine blk_drewN ?_ _ | refine blk_drew ?_ | refine blk_alloc ?_ _)); refine blk_put (cs := #[.int .i64 0, .int .i64 0, .int .i64 0, .bool false, .int .i64 0, .slice none 0 0]) ?_ 1 _ rfl; (with_reducible repeat (first | refine blk_drewN ?_ _ | refine blk_drew ?_ | refine blk_alloc ?_ _)); refine blk_put (cs := #[.int .i64 0, .int .i64 0, .int .i64 0, .bool false, .int .i64 0, .slice none 0 0]) ?_ 0 _ rfl; (with_reducible repeat (first | refine blk_drewN ?_ _ | refine blk_drew ?_ | refine blk_alloc ?_ _)); exact BK173.out) Try.underlying24 rfl (by kernel_rfl)) rfl ?_
        exact ⟨_, by first | rfl | (simp [errW_none, errW_some] <;> rfl) | (simp [*, errW_none, errW_some] <;> rfl), by first | exact Kd.R_nil _ _ _ _ _ | exact Kd.N_nil _ _ _ _ _ | exact Kd.V_nil _ _ _ _ _ | exact Kd.Q_nil _ _ _ _ _ | exact Kd.S_nil _ _ _ _ _, by repeat (first | (with_reducible first | exact HB.out | apply below_alloc | apply pw_below_drewN | apply below_drew1 | refine below_set ?_ GE172.out | refine below_set ?_ GE173.out) | exact HB.out)⟩
      · replace c21 := Bool.eq_false_iff.mpr c21
        subst c21
        have H1 : (wimpleref4_GetOpt.l0 kj1 0 a0_0 a0_1 a0_2 a0_3 a0_4 a0_2 (a0_3 / 16777216) (Go.bits .and .i64 (a0_3 / 65536) 255) ((Go.bits .and .i64 (a0_3 / 32768) 1) == 1) (Go.bits .and .i64 a0_3 32767) ([] : List (S52))) = some (r1, r2, r3, r4, r5, r6, r7) := by rw [if_neg (show ¬ (false = true) by decide)] at H; exact H
        clear H
        have H := H1
        clear H1
        have H' := Aside0.mk H
        clear H
        have hnb24 := NB172_173.out
        have hnc24 := NB173_172.out
        (try clear hcz12_0 hcz12_1 hcz12_2 hcz12_3 hcz12_4 hfz12_0 hfz12_1 hfz12_2 hfz12_3 hfz12_4)
        (try clear hcz14_0 hcz14_1 hcz14_2 hcz14_3 hcz14_4 hfz14_0 hfz14_1 hfz14_2 hfz14_3 hfz14_4)
        (try clear hcz16_0 hcz16_1 hcz16_2 hcz16_3 hcz16_4 hfz16_0 hfz16_1 hfz16_2 hfz16_3 hfz16_4)
        (try clear hcz18_0 hcz18_1 hcz18_2 hcz18_3 hcz18_4 hfz18_0 hfz18_1 hfz18_2 hfz18_3 hfz18_4)
        (try clear hcz20_0 hcz20_1 hcz20_2 hcz20_3 hcz20_4 hfz20_0 hfz20_1 hfz20_2 hfz20_3 hfz20_4)
        have hcz25_0 : wc.cell? ⟨gb172, 0, none⟩ = some (.string a0_0) := (blk_cell BK172.out 0).trans rfl
        have hcz25_1 : wc.cell? ⟨gb172, 1, none⟩ = some (.int .i64 a0_1) := (blk_cell BK172.out 1).trans rfl
        have hcz25_2 : wc.cell? ⟨gb172, 2, none⟩ = some (.int .i64 a0_2) := (blk_cell BK172.out 2).trans rfl
        have hcz25_3 : wc.cell? ⟨gb172, 3, none⟩ = some (.int .i64 a0_3) := (blk_cell BK172.out 3).trans rfl
        have hcz25_4 : wc.cell? ⟨gb172, 4, none⟩ = some (.string a0_4) := (blk_cell BK172.out 4).trans rfl
        have hfz25_0 := blk_frozen BK172.out 0
        have hfz25_1 := blk_frozen BK172.out 1
        have hfz25_2 := blk_frozen BK172.out 2
        have hfz25_3 := blk_frozen BK172.out 3
        have hfz25_4 := blk_frozen BK172.out 4
        go_wp2_with (first | ((with_reducible refine gate_dst (N := 4) rfl ?_); (try (refine gate_guard (by rfl) ?_; dsimp only)); refine box_event ?hg (N := 4) ?hd (cs := #[.int .i64 0, .int .i64 0, .int .i64 0, .bool false, .int .i64 0, .slice none 0 0]) (t := 24) ?hr ?_; (case hd => rfl); (case hg => rfl); (case hr => first | (go_simp; done) | (go_simp; rfl)); intro gb176 hg w26 hbox hb; have n0_ := Aside0.mk (blk_below (g := gb172) (o := .cells #[.string a0_0, .int .i64 a0_1, .int .i64 a0_2, .int .i64 a0_3, .string a0_4] 26 (0, 0)) (by (with_reducible repeat (first | refine blk_drewN ?_ _ | refine blk_drew ?_ | refine blk_alloc ?_ _)); exact BK172.out) hb); have n1_ := Aside0.mk (blk_below (g := gb173) (o := .cells #[.int .i64 0, .int .i64 0, .int .i64 0, .bool false, .int .i64 0, .slice none 0 0] 24 (0, 0)) (by (with_reducible repeat (first | refine blk_drewN ?_ _ | refine blk_drew ?_ | refine blk_alloc ?_ _)); exact BK173.out) hb); have n2_ := Aside0.mk (below_step (by repeat (first | (with_reducible first | exact HB.out | apply below_alloc | apply pw_below_drewN | apply below_drew1 | refine below_set ?_ GE172.out | refine below_set ?_ GE173.out) | exact HB.out)) hb); have n3_ := Aside0.mk (hbox); have n4_ := Aside0.mk ((by rw [hg]; exact (below_size (by repeat (first | (with_reducible first | exact HB.out | apply below_alloc | apply pw_below_drewN | apply below_drew1 | refine below_set ?_ GE172.out | refine below_set ?_ GE173.out) | exact HB.out))) : w.heap.size ≤ gb176)); have n5_ := Aside0.mk ((by rw [hg]; exact (below_size (by repeat (first | (with_reducible first | exact HB.out | apply below_alloc | apply pw_below_drewN | apply below_drew1 | refine below_set ?_ GE172.out | refine below_set ?_ GE173.out) | exact HB.out))) : w.heap.size ≤ gb176)); have n6_ := Aside0.mk ((by rw [hg]; exact Nat.ne_of_lt (blk_lt (g := gb172) (o := .cells #[.string a0_0, .int .i64 a0_1, .int .i64 a0_2, .int .i64 a0_3, .string a0_4] 26 (0, 0)) (by (with_reducible repeat (first | refine blk_drewN ?_ _ | refine blk_drew ?_ | refine blk_alloc ?_ _)); exact BK172.out)) : gb172 ≠ gb176)); have n7_ := Aside0.mk ((by rw [hg]; exact Nat.ne_of_gt (blk_lt (g := gb172) (o := .cells #[.string a0_0, .int .i64 a0_1, .int .i64 a0_2, .int .i64 a0_3, .string a0_4] 26 (0, 0)) (by (with_reducible repeat (first | refine blk_drewN ?_ _ | refine blk_drew ?_ | refine blk_alloc ?_ _)); exact BK172.out)) : gb176 ≠ gb172)); have n8_ := Aside0.mk ((by rw [hg]; exact Nat.ne_of_lt (blk_lt (g := gb173) (o := .cells #[.int .i64 0, .int .i64 0, .int .i64 0, .bool false, .int .i64 0, .slice none 0 0] 24 (0, 0)) (by (with_reducible repeat (first | refine blk_drewN ?_ _ | refine blk_drew ?_ | refine blk_alloc ?_ _)); exact BK173.out)) : gb173 ≠ gb176)); have n9_ := Aside0.mk ((by rw [hg]; exact Nat.ne_of_gt (blk_lt (g := gb173) (o := .cells #[.int .i64 0, .int .i64 0, .int .i64 0, .bool false, .int .i64 0, .slice none 0 0] 24 (0, 0)) (by (with_reducible repeat (first | refine blk_drewN ?_ _ | refine blk_drew ?_ | refine blk_alloc ?_ _)); exact BK173.out)) : gb176 ≠ gb173)); clear BK172; clear BK173; clear HB; have BK172 := n0_; have BK173 := n1_; have HB := n2_; have BK176 := n3_; have GW176 := n4_; have GE176 := n5_; have NB172_176 := n6_; have NB176_172 := n7_; have NB173_176 := n8_; have NB176_173 := n9_; clear n0_ n1_ n2_ n3_ n4_ n5_ n6_ n7_ n8_ n9_; clear hb hbox hg; have hnb27 := NB176_172.out; have hnc27 := NB172_176.out; have hnb28 := NB176_173.out; have hnc28 := NB173_176.out; (try clear hcz14_0 hcz14_1 hcz14_2 hcz14_3 hcz14_4 hfz14_0 hfz14_1 hfz14_2 hfz14_3 hfz14_4); (try clear hcz16_0 hcz16_1 hcz16_2 hcz16_3 hcz16_4 hfz16_0 hfz16_1 hfz16_2 hfz16_3 hfz16_4); (try clear hcz18_0 hcz18_1 hcz18_2 hcz18_3 hcz18_4 hfz18_0 hfz18_1 hfz18_2 hfz18_3 hfz18_4); (try clear hcz20_0 hcz20_1 hcz20_2 hcz20_3 hcz20_4 hfz20_0 hfz20_1 hfz20_2 hfz20_3 hfz20_4); (try clear hcz23_0 hcz23_1 hcz23_2 hcz23_3 hcz23_4 hcz23_5 hfz23_0 hfz23_1 hfz23_2 hfz23_3 hfz23_4 hfz23_5); (try clear hcz25_0 hcz25_1 hcz25_2 hcz25_3 hcz25_4 hfz25_0 hfz25_1 hfz25_2 hfz25_3 hfz25_4); have hcz29_0 : w26.cell? ⟨gb176, 0, none⟩ = some (.int .i64 0) := (blk_cell BK176.out 0).trans rfl; have hcz29_1 : w26.cell? ⟨gb176, 1, none⟩ = some (.int .i64 0) := (blk_cell BK176.out 1).trans rfl; have hcz29_2 : w26.cell? ⟨gb176, 2, none⟩ = some (.int .i64 0) := (blk_cell BK176.out 2).trans rfl; have hcz29_3 : w26.cell? ⟨gb176, 3, none⟩ = some (.bool false) := (blk_cell BK176.out 3).trans rfl; have hcz29_4 : w26.cell? ⟨gb176, 4, none⟩ = some (.int .i64 0) := (blk_cell BK176.out 4).trans rfl; have hcz29_5 : w26.cell? ⟨gb176, 5, none⟩ = some (.slice none 0 0) := (blk_cell BK176.out 5).trans rfl; have hfz29_0 := blk_frozen BK176.out 0; have hfz29_1 := blk_frozen BK176.out 1; have hfz29_2 := blk_frozen BK176.out 2; have hfz29_3 := blk_frozen BK176.out 3; have hfz29_4 := blk_frozen BK176.out 4; have hfz29_5 := blk_frozen BK176.out 5))
        go_loopg [5] kj1 (fun kq v5 w' => ∃ (x5_2 : Int) (x174000_2 : Int) (x174001_2 : Int) (x174002_2 : Int) (x174003_2 : Bool) (x174004_2 : Int) (x177005_2 : List (S52)) (u177005 : Value), v5 = .int .i64 x5_2 ∧ Aside0 (wimpleref4_GetOpt.l0 kq x5_2 a0_0 a0_1 a0_2 a0_3 a0_4 a0_2 (a0_3 / 16777216) (Go.bits .and .i64 (a0_3 / 65536) 255) ((Go.bits .and .i64 (a0_3 / 32768) 1) == 1) (Go.bits .and .i64 a0_3 32767) x177005_2 = some (r1, r2, r3, r4, r5, r6, r7)) ∧ Aside0 (kq ≤ kj1) ∧ Aside0 (Kd.R k52 52 w' w.heap.size (fun _ => True) u177005 x177005_2) ∧ Aside0 (w'.heap[gb172]? = some (.cells #[.string a0_0, .int .i64 a0_1, .int .i64 a0_2, .int .i64 a0_3, .string a0_4] 26 (0, 0))) ∧ Aside0 (w'.heap[gb173]? = some (.cells #[.int .i64 x174000_2, .int .i64 x174001_2, .int .i64 x174002_2, .bool x174003_2, .int .i64 x174004_2, (.slice none 0 0)] 24 (0, 0))) ∧ Aside0 (w'.heap[gb176]? = some (.cells #[.int .i64 a0_2, .int .i64 (a0_3 / 16777216), .int .i64 (Go.bits .and .i64 (a0_3 / 65536) 255), .bool ((Go.bits .and .i64 (a0_3 / 32768) 1) == 1), .int .i64 (Go.bits .and .i64 a0_3 32767), u177005] 24 (0, 0))) ∧ Aside0 (Below w.heap.size w w'))
        case atStart => exact ⟨(0), (0), (0), (0), (false), (0), (([] : List (S52))), (.slice none 0 0), (by first | rfl | (simp; done) | (simp [*]; done)), H', ⟨Nat.le_refl _⟩, ⟨by first | exact Kd.R_nil _ _ _ _ _ | exact Kd.N_nil _ _ _ _ _ | exact Kd.V_nil _ _ _ _ _ | exact Kd.Q_nil _ _ _ _ _ | exact Kd.S_nil _ _ _ _ _⟩, ⟨by (with_reducible repeat (first | refine blk_drewN ?_ _ | refine blk_drew ?_ | refine blk_alloc ?_ _)); refine blk_far ?_ NB172_176.out _; (with_reducible repeat (first | refine blk_drewN ?_ _ | refine blk_drew ?_ | refine blk_alloc ?_ _)); refine blk_far ?_ NB172_176.out _; (with_reducible repeat (first | refine blk_drewN ?_ _ | refine blk_drew ?_ | refine blk_alloc ?_ _)); refine blk_far ?_ NB172_176.out _; (with_reducible repeat (first | refine blk_drewN ?_ _ | refine blk_drew ?_ | refine blk_alloc ?_ _)); refine blk_far ?_ NB172_176.out _; (with_reducible repeat (first | refine blk_drewN ?_ _ | refine blk_drew ?_ | refine blk_alloc ?_ _)); refine blk_far ?_ NB172_176.out _; (with_reducible repeat (first | refine blk_drewN ?_ _ | refine blk_drew ?_ | refine blk_alloc ?_ _)); refine blk_far ?_ NB172_176.out _; (with_reducible repeat (first | refine blk_drewN ?_ _ | refine blk_drew ?_ | refine blk_alloc ?_ _)); exact BK172.out⟩, ⟨by (with_reducible repeat (first | refine blk_drewN ?_ _ | refine blk_drew ?_ | refine blk_alloc ?_ _)); refine blk_far ?_ NB173_176.out _; (with_reducible repeat (first | refine blk_drewN ?_ _ | refine blk_drew ?_ | refine blk_alloc ?_ _)); refine blk_far ?_ NB173_176.out _; (with_reducible repeat (first | refine blk_drewN ?_ _ | refine blk_drew ?_ | refine blk_alloc ?_ _)); refine blk_far ?_ NB173_176.out _; (with_reducible repeat (first | refine blk_drewN ?_ _ | refine blk_drew ?_ | refine blk_alloc ?_ _)); refine blk_far ?_ NB173_176.out _; (with_reducible repeat (first | refine blk_drewN ?_ _ | refine blk_drew ?_ | refine blk_alloc ?_ _)); refine blk_far ?_ NB173_176.out _; (with_reducible repeat (first | refine blk_drewN ?_ _ | refine blk_drew ?_ | refine blk_alloc ?_ _)); refine blk_far ?_ NB173_176.out _; (with_reducible repeat (first | refine blk_drewN ?_ _ | refine blk_drew ?_ | refine blk_alloc ?_ _)); exact BK173.out⟩, ⟨by (with_reducible repeat (first | refine blk_drewN ?_ _ | refine blk_drew ?_ | refine blk_alloc ?_ _)); refine blk_put (cs := #[.int .i64 a0_2, .int .i64 (a0_3 / 16777216), .int .i64 (Go.bits .and .i64 (a0_3 / 65536) 255), .bool ((Go.bits .and .i64 (a0_3 / 32768) 1) == 1), .int .i64 (Go.bits .and .i64 a0_3 32767), .slice none 0 0]) ?_ 5 _ rfl; (with_reducible repeat (first | refine blk_drewN ?_ _ | refine blk_drew ?_ | refine blk_alloc ?_ _)); refine blk_put (cs := #[.int .i64 a0_2, .int .i64 (a0_3 / 16777216), .int .i64 (Go.bits .and .i64 (a0_3 / 65536) 255), .bool ((Go.bits .and .i64 (a0_3 / 32768) 1) == 1), .int .i64 0, .slice none 0 0]) ?_ 4 _ rfl; (with_reducible repeat (first | refine blk_drewN ?_ _ | refine blk_drew ?_ | refine blk_alloc ?_ _)); refine blk_put (cs := #[.int .i64 a0_2, .int .i64 (a0_3 / 16777216), .int .i64 (Go.bits .and .i64 (a0_3 / 65536) 255), .bool false, .int .i64 0, .slice none 0 0]) ?_ 3 _ rfl; (with_reducible repeat (first | refine blk_drewN ?_ _ | refine blk_drew ?_ | refine blk_alloc ?_ _)); refine blk_put (cs := #[.int .i64 a0_2, .int .i64 (a0_3 / 16777216), .int .i64 0, .bool false, .int .i64 0, .slice none 0 0]) ?_ 2 _ rfl; (with_reducible repeat (first | refine blk_drewN ?_ _ | refine blk_drew ?_ | refine blk_alloc ?_ _)); refine blk_put (cs := #[.int .i64 a0_2, .int .i64 0, .int .i64 0, .bool false, .int .i64 0, .slice none 0 0]) ?_ 1 _ rfl; (with_reducible repeat (first | refine blk_drewN ?_ _ | refine blk_drew ?_ | refine blk_alloc ?_ _)); refine blk_put (cs := #[.int .i64 0, .int .i64 0, .int .i64 0, .bool false, .int .i64 0, .slice none 0 0]) ?_ 0 _ rfl; (with_reducible repeat (first | refine blk_drewN ?_ _ | refine blk_drew ?_ | refine blk_alloc ?_ _)); exact BK176.out⟩, ⟨by repeat (first | (with_reducible first | exact HB.out | apply below_alloc | apply pw_below_drewN | apply below_drew1 | refine below_set ?_ GE172.out | refine below_set ?_ GE173.out | refine below_set ?_ GE176.out) | exact HB.out)⟩⟩
        case round =>
          clear H'
          try clear c1
          try clear c2
          try clear p2
          try clear c5
          try clear c5b0
          try clear c5b1
          try clear c6
          try clear c6b0
          try clear c6b1
          try clear c8
          try clear c10
          try clear c11
          try clear c13
          try clear c15
          try clear c17
          try clear c19
          try clear c21
          try clear c22
          try clear c24
          try clear c27
          try clear c28
          try clear hcz12_0
          try clear hcz12_1
          try clear hcz12_2
          try clear hcz12_3
          try clear hcz12_4
          try clear hcz14_0
          try clear hcz14_1
          try clear hcz14_2
          try clear hcz14_3
          try clear hcz14_4
          try clear hcz16_0
          try clear hcz16_1
          try clear hcz16_2
          try clear hcz16_3
          try clear hcz16_4
          try clear hcz18_0
          try clear hcz18_1
          try clear hcz18_2
          try clear hcz18_3
          try clear hcz18_4
          try clear hcz20_0
          try clear hcz20_1
          try clear hcz20_2
          try clear hcz20_3
          try clear hcz20_4
          try clear hcz23_0
          try clear hcz23_1
          try clear hcz23_2
          try clear hcz23_3
          try clear hcz23_4
          try clear hcz23_5
          try clear hcz25_0
          try clear hcz25_1
          try clear hcz25_2
          try clear hcz25_3
          try clear hcz25_4
          try clear hcz29_0
          try clear hcz29_1
          try clear hcz29_2
          try clear hcz29_3
          try clear hcz29_4
          try clear hcz29_5
          try clear hcz56_0
          try clear hcz56_1
          try clear hcz56_2
          try clear hcz56_3
          try clear hcz56_4
          try clear hcz56_5
          try clear hcz60_0
          try clear hcz60_1
          try clear hcz60_2
          try clear hcz60_3
          try clear hcz60_4
          try clear hcz62_0
          try clear hcz62_1
          try clear hcz62_2
          try clear hcz62_3
          try clear hcz62_4
          try clear hcz63_0
          try clear hcz63_1
          try clear hcz63_2
          try clear hcz63_3
          try clear hcz63_4
          try clear hcz63_5
          try clear hcz67_0
          try clear hcz67_1
          try clear hcz67_2
          try clear hcz67_3
          try clear hcz67_4
          try clear hcz69_0
          try clear hcz69_1
          try clear hcz69_2
          try clear hcz69_3
          try clear hcz69_4
          try clear hcz69_5
          try clear hfz12_0
          try clear hfz12_1
          try clear hfz12_2
          try clear hfz12_3
          try clear hfz12_4
          try clear hfz14_0
          try clear hfz14_1
          try clear hfz14_2
          try clear hfz14_3
          try clear hfz14_4
          try clear hfz16_0
          try clear hfz16_1
          try clear hfz16_2
          try clear hfz16_3
          try clear hfz16_4
          try clear hfz18_0
          try clear hfz18_1
          try clear hfz18_2
          try clear hfz18_3
          try clear hfz18_4
          try clear hfz20_0
          try clear hfz20_1
          try clear hfz20_2
          try clear hfz20_3
          try clear hfz20_4
          try clear hfz23_0
          try clear hfz23_1
          try clear hfz23_2
          try clear hfz23_3
          try clear hfz23_4
          try clear hfz23_5
          try clear hfz25_0
          try clear hfz25_1
          try clear hfz25_2
          try clear hfz25_3
          try clear hfz25_4
          try clear hfz29_0
          try clear hfz29_1
          try clear hfz29_2
          try clear hfz29_3
          try clear hfz29_4
          try clear hfz29_5
          try clear hfz56_0
          try clear hfz56_1
          try clear hfz56_2
          try clear hfz56_3
          try clear hfz56_4
          try clear hfz56_5
          try clear hfz60_0
          try clear hfz60_1
          try clear hfz60_2
          try clear hfz60_3
          try clear hfz60_4
          try clear hfz62_0
          try clear hfz62_1
          try clear hfz62_2
          try clear hfz62_3
          try clear hfz62_4
          try clear hfz63_0
          try clear hfz63_1
          try clear hfz63_2
          try clear hfz63_3
          try clear hfz63_4
          try clear hfz63_5
          try clear hfz67_0
          try clear hfz67_1
          try clear hfz67_2
          try clear hfz67_3
          try clear hfz67_4
          try clear hfz69_0
          try clear hfz69_1
          try clear hfz69_2
          try clear hfz69_3
          try clear hfz69_4
          try clear hfz69_5
          try clear p2
          obtain ⟨x5_2, x174000_2, x174001_2, x174002_2, x174003_2, x174004_2, x177005_2, u177005, rfl, HA, HK2, HO_177005, BK172, BK173, BK176, HB⟩ := hrel
          cases gk with
          | zero => exact absurd HA.out (by simp [wimpleref4_GetOpt.l0])
          | succ k2 =>
            have H := HA.out
            clear HA
            simp only [wimpleref4_GetOpt.l0] at H
            by_cases c30 : x5_2 < (a0_4.size : Int)
            · rw [if_pos c30] at H
              have c30b0 : decide (x5_2 < (a0_4.size : Int)) = true := decide_eq_true c30
              clear c30
              replace H := Option.bind_eq_some_iff.mp H
              obtain ⟨⟨t177, t178, t179⟩, A310, H⟩ := H
              replace H : ((wimpleref1_Num.f k2 a0_4 t178 2).bind fun bt180 => (if t179 = 0 then (if bt180.2.2 = 0 then (if bt180.1 > (wrap64 ((a0_4.size : Int) - bt180.2.1)) then (some (0, 0, 0, false, 0, ([] : List (S52)), 800)) else (if 0 ≤ bt180.2.1 then (if bt180.2.1 ≤ (wrap64 (bt180.2.1 + bt180.1)) then (if (wrap64 (bt180.2.1 + bt180.1)) ≤ (a0_4.size : Int) then (if x177005_2.length < 5864062014805 then (wimpleref4_GetOpt.l0 k2 (wrap64 (bt180.2.1 + bt180.1)) a0_0 a0_1 a0_2 a0_3 a0_4 a0_2 (a0_3 / 16777216) (Go.bits .and .i64 (a0_3 / 65536) 255) ((Go.bits .and .i64 (a0_3 / 32768) 1) == 1) (Go.bits .and .i64 a0_3 32767) (x177005_2 ++ [(⟨t177, a0_4.extract (bt180.2.1 : Int).toNat ((wrap64 (bt180.2.1 + bt180.1)) : Int).toNat⟩ : S52)])) else (none)) else (none)) else (none)) else (none))) else (some (0, 0, 0, false, 0, ([] : List (S52)), 800))) else (some (0, 0, 0, false, 0, ([] : List (S52)), 800)))) = some (r1, r2, r3, r4, r5, r6, r7) := H
              have A31 := Aside0.mk A310
              clear A310
              replace H := Option.bind_eq_some_iff.mp H
              obtain ⟨⟨t180, t181, t182⟩, A320, H⟩ := H
              replace H : (if t179 = 0 then (if t182 = 0 then (if t180 > (wrap64 ((a0_4.size : Int) - t181)) then (some (0, 0, 0, false, 0, ([] : List (S52)), 800)) else (if 0 ≤ t181 then (if t181 ≤ (wrap64 (t181 + t180)) then (if (wrap64 (t181 + t180)) ≤ (a0_4.size : Int) then (if x177005_2.length < 5864062014805 then (wimpleref4_GetOpt.l0 k2 (wrap64 (t181 + t180)) a0_0 a0_1 a0_2 a0_3 a0_4 a0_2 (a0_3 / 16777216) (Go.bits .and .i64 (a0_3 / 65536) 255) ((Go.bits .and .i64 (a0_3 / 32768) 1) == 1) (Go.bits .and .i64 a0_3 32767) (x177005_2 ++ [(⟨t177, a0_4.extract (t181 : Int).toNat ((wrap64 (t181 + t180)) : Int).toNat⟩ : S52)])) else (none)) else (none)) else (none)) else (none))) else (some (0, 0, 0, false, 0, ([] : List (S52)), 800))) else (some (0, 0, 0, false, 0, ([] : List (S52)), 800))) = some (r1, r2, r3, r4, r5, r6, r7) := H
              have A32 := Aside0.mk A320
              clear A320
              by_cases c33 : t179 = 0
              · rw [if_pos c33] at H
                have c33b0 : (t179 == 0) = true := beq_iff_eq.mpr c33
                have c33b1 : (t179 != 0) = false := bne_eq_false_iff_eq.mpr c33
                clear c33
                by_cases c34 : t182 = 0
                · rw [if_pos c34] at H
                  have c34b0 : (t182 == 0) = true := beq_iff_eq.mpr c34
                  have c34b1 : (t182 != 0) = false := bne_eq_false_iff_eq.mpr c34
                  clear c34
                  by_cases c35 : t180 > (wrap64 ((a0_4.size : Int) - t181))
                  · rw [if_pos c35] at H
                    have c35b0 : decide ((wrap64 ((a0_4.size : Int) - t181)) < t180) = true := decide_eq_true c35
                    clear c35
                    simp only [Option.some.injEq, Prod.mk.injEq] at H
                    obtain ⟨rfl, rfl, rfl, rfl, rfl, rfl, rfl⟩ := H
                    have hnb36 := NB172_173.out
                    have hnc36 := NB173_172.out
                    have hnb37 := NB172_176.out
                    have hnc37 := NB176_172.out
                    (try clear hcz16_0 hcz16_1 hcz16_2 hcz16_3 hcz16_4 hfz16_0 hfz16_1 hfz16_2 hfz16_3 hfz16_4)
                    (try clear hcz18_0 hcz18_1 hcz18_2 hcz18_3 hcz18_4 hfz18_0 hfz18_1 hfz18_2 hfz18_3 hfz18_4)
                    (try clear hcz20_0 hcz20_1 hcz20_2 hcz20_3 hcz20_4 hfz20_0 hfz20_1 hfz20_2 hfz20_3 hfz20_4)
                    (try clear hcz23_0 hcz23_1 hcz23_2 hcz23_3 hcz23_4 hcz23_5 hfz23_0 hfz23_1 hfz23_2 hfz23_3 hfz23_4 hfz23_5)
                    (try clear hcz25_0 hcz25_1 hcz25_2 hcz25_3 hcz25_4 hfz25_0 hfz25_1 hfz25_2 hfz25_3 hfz25_4)
                    (try clear hcz29_0 hcz29_1 hcz29_2 hcz29_3 hcz29_4 hcz29_5 hfz29_0 hfz29_1 hfz29_2 hfz29_3 hfz29_4 hfz29_5)
                    have hcz38_0 : wr.cell? ⟨gb172, 0, none⟩ = some (.string a0_0) := (blk_cell BK172.out 0).trans rfl
                    have hcz38_1 : wr.cell? ⟨gb172, 1, none⟩ = some (.int .i64 a0_1) := (blk_cell BK172.out 1).trans rfl
                    have hcz38_2 : wr.cell? ⟨gb172, 2, none⟩ = some (.int .i64 a0_2) := (blk_cell BK172.out 2).trans rfl
                    have hcz38_3 : wr.cell? ⟨gb172, 3, none⟩ = some (.int .i64 a0_3) := (blk_cell BK172.out 3).trans rfl
                    have hcz38_4 : wr.cell? ⟨gb172, 4, none⟩ = some (.string a0_4) := (blk_cell BK172.out 4).trans rfl
                    have hfz38_0 := blk_frozen BK172.out 0
                    have hfz38_1 := blk_frozen BK172.out 1
                    have hfz38_2 := blk_frozen BK172.out 2
                    have hfz38_3 := blk_frozen BK172.out 3
                    have hfz38_4 := blk_frozen BK172.out 4
                    go_wp2_with (first | ((with_reducible refine gate_dst (N := 66) rfl ?_); (try (refine gate_guard (by rfl) ?_; dsimp only)); (with_reducible refine gate_callee (f := 53) rfl ?_); refine goesL_ (some 66) rfl rfl Try.func53 (by kernel_rfl) rfl #[.string a0_4, .int .i64 x5_2, .int .i64 2] rfl (by (try simp only [List.map_toArray, List.map_cons, List.map_nil]); first | done | rfl | (simp only [List.length_drop, List.length_take]; rfl)) ?_; (with_reducible refine (wimpleref1_Num.calls k2 a0_4 x5_2 2 t177 t178 t179 _ A31.out).mono ?_); rintro e w' ⟨rfl, ⟨nd, rfl⟩⟩; refine ⟨_, rfl, ?_⟩; (try (rw [drewN_self wr]; generalize hq_ : World.drewN wr _ = wr; have n0_ : Aside0 (Kd.R k52 52 wr w.heap.size (fun _ => True) u177005 x177005_2) := ⟨by rw [← hq_]; exact (by (with_reducible repeat (first | apply Kd.R_alloc | apply Kd.R_drewN | apply Kd.R_drew)); exact HO_177005.out)⟩; have n1_ : Aside0 (wr.heap[gb172]? = some (.cells #[.string a0_0, .int .i64 a0_1, .int .i64 a0_2, .int .i64 a0_3, .string a0_4] 26 (0, 0))) := ⟨by rw [← hq_]; exact (by (with_reducible repeat (first | refine blk_drewN ?_ _ | refine blk_drew ?_ | refine blk_alloc ?_ _)); exact BK172.out)⟩; have n2_ : Aside0 (wr.heap[gb173]? = some (.cells #[.int .i64 x174000_2, .int .i64 x174001_2, .int .i64 x174002_2, .bool x174003_2, .int .i64 x174004_2, .slice none 0 0] 24 (0, 0))) := ⟨by rw [← hq_]; exact (by (with_reducible repeat (first | refine blk_drewN ?_ _ | refine blk_drew ?_ | refine blk_alloc ?_ _)); exact BK173.out)⟩; have n3_ : Aside0 (wr.heap[gb176]? = some (.cells #[.int .i64 a0_2, .int .i64 (a0_3 / 16777216), .int .i64 (Go.bits .and .i64 (a0_3 / 65536) 255), .bool ((Go.bits .and .i64 (a0_3 / 32768) 1) == 1), .int .i64 (Go.bits .and .i64 a0_3 32767), u177005] 24 (0, 0))) := ⟨by rw [← hq_]; exact (by (with_reducible repeat (first | refine blk_drewN ?_ _ | refine blk_drew ?_ | refine blk_alloc ?_ _)); exact BK176.out)⟩; have n4_ : Aside0 (Below w.heap.size w wr) := ⟨by rw [← hq_]; exact (by repeat (first | (with_reducible first | exact HB.out | apply below_alloc | apply pw_below_drewN | apply below_drew1 | refine below_set ?_ GE172.out | refine below_set ?_ GE173.out | refine below_set ?_ GE176.out) | exact HB.out))⟩; clear HO_177005 BK172 BK173 BK176 HB hq_; have HO_177005 := n0_; have BK172 := n1_; have BK173 := n2_; have BK176 := n3_; have HB := n4_; clear n0_ n1_ n2_ n3_ n4_)); (try clear hcz18_0 hcz18_1 hcz18_2 hcz18_3 hcz18_4 hfz18_0 hfz18_1 hfz18_2 hfz18_3 hfz18_4); (try clear hcz20_0 hcz20_1 hcz20_2 hcz20_3 hcz20_4 hfz20_0 hfz20_1 hfz20_2 hfz20_3 hfz20_4); (try clear hcz23_0 hcz23_1 hcz23_2 hcz23_3 hcz23_4 hcz23_5 hfz23_0 hfz23_1 hfz23_2 hfz23_3 hfz23_4 hfz23_5); (try clear hcz25_0 hcz25_1 hcz25_2 hcz25_3 hcz25_4 hfz25_0 hfz25_1 hfz25_2 hfz25_3 hfz25_4); (try clear hcz29_0 hcz29_1 hcz29_2 hcz29_3 hcz29_4 hcz29_5 hfz29_0 hfz29_1 hfz29_2 hfz29_3 hfz29_4 hfz29_5); have hcz39_0 : wr.cell? ⟨gb172, 0, none⟩ = some (.string a0_0) := (blk_cell BK172.out 0).trans rfl; have hcz39_1 : wr.cell? ⟨gb172, 1, none⟩ = some (.int .i64 a0_1) := (blk_cell BK172.out 1).trans rfl; have hcz39_2 : wr.cell? ⟨gb172, 2, none⟩ = some (.int .i64 a0_2) := (blk_cell BK172.out 2).trans rfl; have hcz39_3 : wr.cell? ⟨gb172, 3, none⟩ = some (.int .i64 a0_3) := (blk_cell BK172.out 3).trans rfl; have hcz39_4 : wr.cell? ⟨gb172, 4, none⟩ = some (.string a0_4) := (blk_cell BK172.out 4).trans rfl; have hfz39_0 := blk_frozen BK172.out 0; have hfz39_1 := blk_frozen BK172.out 1; have hfz39_2 := blk_frozen BK172.out 2; have hfz39_3 := blk_frozen BK172.out 3; have hfz39_4 := blk_frozen BK172.out 4; (try clear hcz20_0 hcz20_1 hcz20_2 hcz20_3 hcz20_4 hfz20_0 hfz20_1 hfz20_2 hfz20_3 hfz20_4); (try clear hcz23_0 hcz23_1 hcz23_2 hcz23_3 hcz23_4 hcz23_5 hfz23_0 hfz23_1 hfz23_2 hfz23_3 hfz23_4 hfz23_5); (try clear hcz25_0 hcz25_1 hcz25_2 hcz25_3 hcz25_4 hfz25_0 hfz25_1 hfz25_2 hfz25_3 hfz25_4); (try clear hcz29_0 hcz29_1 hcz29_2 hcz29_3 hcz29_4 hcz29_5 hfz29_0 hfz29_1 hfz29_2 hfz29_3 hfz29_4 hfz29_5); have hcz40_0 : wr.cell? ⟨gb173, 0, none⟩ = some (.int .i64 x174000_2) := (blk_cell BK173.out 0).trans rfl; have hcz40_1 : wr.cell? ⟨gb173, 1, none⟩ = some (.int .i64 x174001_2) := (blk_cell BK173.out 1).trans rfl; have hcz40_2 : wr.cell? ⟨gb173, 2, none⟩ = some (.int .i64 x174002_2) := (blk_cell BK173.out 2).trans rfl; have hcz40_3 : wr.cell? ⟨gb173, 3, none⟩ = some (.bool x174003_2) := (blk_cell BK173.out 3).trans rfl; have hcz40_4 : wr.cell? ⟨gb173, 4, none⟩ = some (.int .i64 x174004_2) := (blk_cell BK173.out 4).trans rfl; have hcz40_5 : wr.cell? ⟨gb173, 5, none⟩ = some (.slice none 0 0) := (blk_cell BK173.out 5).trans rfl; have hfz40_0 := blk_frozen BK173.out 0; have hfz40_1 := blk_frozen BK173.out 1; have hfz40_2 := blk_frozen BK173.out 2; have hfz40_3 := blk_frozen BK173.out 3; have hfz40_4 := blk_frozen BK173.out 4; have hfz40_5 := blk_frozen BK173.out 5; (try clear hcz23_0 hcz23_1 hcz23_2 hcz23_3 hcz23_4 hcz23_5 hfz23_0 hfz23_1 hfz23_2 hfz23_3 hfz23_4 hfz23_5); (try clear hcz25_0 hcz25_1 hcz25_2 hcz25_3 hcz25_4 hfz25_0 hfz25_1 hfz25_2 hfz25_3 hfz25_4); (try clear hcz29_0 hcz29_1 hcz29_2 hcz29_3 hcz29_4 hcz29_5 hfz29_0 hfz29_1 hfz29_2 hfz29_3 hfz29_4 hfz29_5); have hcz41_0 : wr.cell? ⟨gb176, 0, none⟩ = some (.int .i64 a0_2) := (blk_cell BK176.out 0).trans rfl; have hcz41_1 : wr.cell? ⟨gb176, 1, none⟩ = some (.int .i64 (a0_3 / 16777216)) := (blk_cell BK176.out 1).trans rfl; have hcz41_2 : wr.cell? ⟨gb176, 2, none⟩ = some (.int .i64 (Go.bits .and .i64 (a0_3 / 65536) 255)) := (blk_cell BK176.out 2).trans rfl; have hcz41_3 : wr.cell? ⟨gb176, 3, none⟩ = some (.bool ((Go.bits .and .i64 (a0_3 / 32768) 1) == 1)) := (blk_cell BK176.out 3).trans rfl; have hcz41_4 : wr.cell? ⟨gb176, 4, none⟩ = some (.int .i64 (Go.bits .and .i64 a0_3 32767)) := (blk_cell BK176.out 4).trans rfl; have hcz41_5 : wr.cell? ⟨gb176, 5, none⟩ = some (u177005) := (blk_cell BK176.out 5).trans rfl; have hfz41_0 := blk_frozen BK176.out 0; have hfz41_1 := blk_frozen BK176.out 1; have hfz41_2 := blk_frozen BK176.out 2; have hfz41_3 := blk_frozen BK176.out 3; have hfz41_4 := blk_frozen BK176.out 4; have hfz41_5 := blk_frozen BK176.out 5) | ((with_reducible refine gate_dst (N := 74) rfl ?_); (try (refine gate_guard (by rfl) ?_; dsimp only)); (with_reducible refine gate_callee (f := 53) rfl ?_); refine goesL_ (some 74) rfl rfl Try.func53 (by kernel_rfl) rfl #[.string a0_4, .int .i64 t178, .int .i64 2] rfl (by (try simp only [List.map_toArray, List.map_cons, List.map_nil]); first | done | rfl | (simp only [List.length_drop, List.length_take]; rfl)) ?_; (with_reducible refine (wimpleref1_Num.calls k2 a0_4 t178 2 t180 t181 t182 _ A32.out).mono ?_); rintro e w' ⟨rfl, ⟨nd, rfl⟩⟩; refine ⟨_, rfl, ?_⟩; (try (rw [drewN_self wr]; generalize hq_ : World.drewN wr _ = wr; have n0_ : Aside0 (Kd.R k52 52 wr w.heap.size (fun _ => True) u177005 x177005_2) := ⟨by rw [← hq_]; exact (by (with_reducible repeat (first | apply Kd.R_alloc | apply Kd.R_drewN | apply Kd.R_drew)); exact HO_177005.out)⟩; have n1_ : Aside0 (wr.heap[gb172]? = some (.cells #[.string a0_0, .int .i64 a0_1, .int .i64 a0_2, .int .i64 a0_3, .string a0_4] 26 (0, 0))) := ⟨by rw [← hq_]; exact (by (with_reducible repeat (first | refine blk_drewN ?_ _ | refine blk_drew ?_ | refine blk_alloc ?_ _)); exact BK172.out)⟩; have n2_ : Aside0 (wr.heap[gb173]? = some (.cells #[.int .i64 x174000_2, .int .i64 x174001_2, .int .i64 x174002_2, .bool x174003_2, .int .i64 x174004_2, .slice none 0 0] 24 (0, 0))) := ⟨by rw [← hq_]; exact (by (with_reducible repeat (first | refine blk_drewN ?_ _ | refine blk_drew ?_ | refine blk_alloc ?_ _)); exact BK173.out)⟩; have n3_ : Aside0 (wr.heap[gb176]? = some (.cells #[.int .i64 a0_2, .int .i64 (a0_3 / 16777216), .int .i64 (Go.bits .and .i64 (a0_3 / 65536) 255), .bool ((Go.bits .and .i64 (a0_3 / 32768) 1) == 1), .int .i64 (Go.bits .and .i64 a0_3 32767), u177005] 24 (0, 0))) := ⟨by rw [← hq_]; exact (by (with_reducible repeat (first | refine blk_drewN ?_ _ | refine blk_drew ?_ | refine blk_alloc ?_ _)); exact BK176.out)⟩; have n4_ : Aside0 (Below w.heap.size w wr) := ⟨by rw [← hq_]; exact (by repeat (first | (with_reducible first | exact HB.out | apply below_alloc | apply pw_below_drewN | apply below_drew1 | refine below_set ?_ GE172.out | refine below_set ?_ GE173.out | refine below_set ?_ GE176.out) | exact HB.out))⟩; clear HO_177005 BK172 BK173 BK176 HB hq_; have HO_177005 := n0_; have BK172 := n1_; have BK173 := n2_; have BK176 := n3_; have HB := n4_; clear n0_ n1_ n2_ n3_ n4_)); (try clear hcz25_0 hcz25_1 hcz25_2 hcz25_3 hcz25_4 hfz25_0 hfz25_1 hfz25_2 hfz25_3 hfz25_4); (try clear hcz29_0 hcz29_1 hcz29_2 hcz29_3 hcz29_4 hcz29_5 hfz29_0 hfz29_1 hfz29_2 hfz29_3 hfz29_4 hfz29_5); have hcz42_0 : wr.cell? ⟨gb172, 0, none⟩ = some (.string a0_0) := (blk_cell BK172.out 0).trans rfl; have hcz42_1 : wr.cell? ⟨gb172, 1, none⟩ = some (.int .i64 a0_1) := (blk_cell BK172.out 1).trans rfl; have hcz42_2 : wr.cell? ⟨gb172, 2, none⟩ = some (.int .i64 a0_2) := (blk_cell BK172.out 2).trans rfl; have hcz42_3 : wr.cell? ⟨gb172, 3, none⟩ = some (.int .i64 a0_3) := (blk_cell BK172.out 3).trans rfl; have hcz42_4 : wr.cell? ⟨gb172, 4, none⟩ = some (.string a0_4) := (blk_cell BK172.out 4).trans rfl; have hfz42_0 := blk_frozen BK172.out 0; have hfz42_1 := blk_frozen BK172.out 1; have hfz42_2 := blk_frozen BK172.out 2; have hfz42_3 := blk_frozen BK172.out 3; have hfz42_4 := blk_frozen BK172.out 4; (try clear hcz29_0 hcz29_1 hcz29_2 hcz29_3 hcz29_4 hcz29_5 hfz29_0 hfz29_1 hfz29_2 hfz29_3 hfz29_4 hfz29_5); have hcz43_0 : wr.cell? ⟨gb173, 0, none⟩ = some (.int .i64 x174000_2) := (blk_cell BK173.out 0).trans rfl; have hcz43_1 : wr.cell? ⟨gb173, 1, none⟩ = some (.int .i64 x174001_2) := (blk_cell BK173.out 1).trans rfl; have hcz43_2 : wr.cell? ⟨gb173, 2, none⟩ = some (.int .i64 x174002_2) := (blk_cell BK173.out 2).trans rfl; have hcz43_3 : wr.cell? ⟨gb173, 3, none⟩ = some (.bool x174003_2) := (blk_cell BK173.out 3).trans rfl; have hcz43_4 : wr.cell? ⟨gb173, 4, none⟩ = some (.int .i64 x174004_2) := (blk_cell BK173.out 4).trans rfl; have hcz43_5 : wr.cell? ⟨gb173, 5, none⟩ = some (.slice none 0 0) := (blk_cell BK173.out 5).trans rfl; have hfz43_0 := blk_frozen BK173.out 0; have hfz43_1 := blk_frozen BK173.out 1; have hfz43_2 := blk_frozen BK173.out 2; have hfz43_3 := blk_frozen BK173.out 3; have hfz43_4 := blk_frozen BK173.out 4; have hfz43_5 := blk_frozen BK173.out 5; have hcz44_0 : wr.cell? ⟨gb176, 0, none⟩ = some (.int .i64 a0_2) := (blk_cell BK176.out 0).trans rfl; have hcz44_1 : wr.cell? ⟨gb176, 1, none⟩ = some (.int .i64 (a0_3 / 16777216)) := (blk_cell BK176.out 1).trans rfl; have hcz44_2 : wr.cell? ⟨gb176, 2, none⟩ = some (.int .i64 (Go.bits .and .i64 (a0_3 / 65536) 255)) := (blk_cell BK176.out 2).trans rfl; have hcz44_3 : wr.cell? ⟨gb176, 3, none⟩ = some (.bool ((Go.bits .and .i64 (a0_3 / 32768) 1) == 1)) := (blk_cell BK176.out 3).trans rfl; have hcz44_4 : wr.cell? ⟨gb176, 4, none⟩ = some (.int .i64 (Go.bits .and .i64 a0_3 32767)) := (blk_cell BK176.out 4).trans rfl; have hcz44_5 : wr.cell? ⟨gb176, 5, none⟩ = some (u177005) := (blk_cell BK176.out 5).trans rfl; have hfz44_0 := blk_frozen BK176.out 0; have hfz44_1 := blk_frozen BK176.out 1; have hfz44_2 := blk_frozen BK176.out 2; have hfz44_3 := blk_frozen BK176.out 3; have hfz44_4 := blk_frozen BK176.out 4; have hfz44_5 := blk_frozen BK176.out 5))
                    refine bodyPost_ret (results_ct rfl _ _ gb173 24 #[.int .i64 0, .int .i64 0, .int .i64 0, .bool false, .int .i64 0, .slice none 0 0] (0, 0) _ rfl (by (with_reducible repeat (first | refine blk_drewN ?_ _ | refine blk_drew ?_ | refine blk_alloc ?_ _)); refine blk_put (cs := #[.int .i64 0, .int .i64 0, .int .i64 0, .bool false, .int .i64 0, .slice none 0 0]) ?_ 5 _ rfl; (with_reducible repeat (first | refine blk_drewN ?_ _ | refine blk_drew ?_ | refine blk_alloc ?_ _)); refine blk_put (cs := #[.int .i64 0, .int .i64 0, .int .i64 0, .bool false, .int .i64 x174004_2, .slice none 0 0]) ?_ 4 _ rfl; (with_reducible repeat (first | refine blk_drewN ?_ _ | refine blk_drew ?_ | refine blk_alloc ?_ _)); refine blk_put (cs := #[.int .i64 0, .int .i64 0, .int .i64 0, .bool x174003_2, .int .i64 x174004_2, .slice none 0 0]) ?_ 3 _ rfl; (with_reducible repeat (first | refine blk_drewN ?_ _ | refine blk_drew ?_ | refine blk_alloc ?_ _)); refine blk_put (cs := #[.int .i64 0, .int .i64 0, .int .i64 x174002_2, .bool x174003_2, .int .i64 x174004_2, .slice none 0 0]) ?_ 2 _ rfl; (with_reducible repeat (first | refine blk_drewN ?_ _ | refine blk_drew ?_ | refine blk_alloc ?_ _)); refine blk_put (cs := #[.int .i64 0, .int .i64 x174001_2, .int .i64 x174002_2, .bool x174003_2, .int .i64 x174004_2, .slice none 0 0]) ?_ 1 _ rfl; (with_reducible repeat (first | refine blk_drewN ?_ _ | refine blk_drew ?_ | refine blk_alloc ?_ _)); refine blk_put (cs := #[.int .i64 x174000_2, .int .i64 x174001_2, .int .i64 x174002_2, .bool x174003_2, .int .i64 x174004_2, .slice none 0 0]) ?_ 0 _ rfl; (with_reducible repeat (first | refine blk_drewN ?_ _ | refine blk_drew ?_ | refine blk_alloc ?_ _)); exact BK173.out) Try.underlying24 rfl (by kernel_rfl)) rfl ?_
                    exact ⟨_, by first | rfl | (simp [errW_none, errW_some] <;> rfl) | (simp [*, errW_none, errW_some] <;> rfl), by first | exact Kd.R_nil _ _ _ _ _ | exact Kd.N_nil _ _ _ _ _ | exact Kd.V_nil _ _ _ _ _ | exact Kd.Q_nil _ _ _ _ _ | exact Kd.S_nil _ _ _ _ _, by repeat (first | (with_reducible first | exact HB.out | apply below_alloc | apply pw_below_drewN | apply below_drew1 | refine below_set ?_ GE172.out | refine below_set ?_ GE173.out | refine below_set ?_ GE176.out) | exact HB.out)⟩
                  · rw [if_neg c35] at H
                    have c35b0 : decide ((wrap64 ((a0_4.size : Int) - t181)) < t180) = false := decide_eq_false c35
                    clear c35
                    by_cases c45 : 0 ≤ t181
                    · rw [if_pos c45] at H
                      have c45b0 := eq_true c45
                      have c45b1 : decide (0 ≤ t181) = true := decide_eq_true c45
                      clear c45
                      by_cases c46 : t181 ≤ (wrap64 (t181 + t180))
                      · rw [if_pos c46] at H
                        have c46b0 := eq_true c46
                        have c46b1 : decide (t181 ≤ (wrap64 (t181 + t180))) = true := decide_eq_true c46
                        by_cases c47 : (wrap64 (t181 + t180)) ≤ (a0_4.size : Int)
                        · rw [if_pos c47] at H
                          have c47b0 := eq_true c47
                          have c47b1 : decide ((wrap64 (t181 + t180)) ≤ (a0_4.size : Int)) = true := decide_eq_true c47
                          by_cases c48 : x177005_2.length < 5864062014805
                          · rw [if_pos c48] at H
                            have LMc48 := Aside0.mk c48
                            clear c48
                            obtain ⟨y183, hy183⟩ : ∃ y_ : List (S52), y_ = (x177005_2 ++ [(⟨t177, a0_4.extract (t181 : Int).toNat ((wrap64 (t181 + t180)) : Int).toNat⟩ : S52)]) := ⟨_, rfl⟩
                            replace H : (wimpleref4_GetOpt.l0 k2 (wrap64 (t181 + t180)) a0_0 a0_1 a0_2 a0_3 a0_4 a0_2 (a0_3 / 16777216) (Go.bits .and .i64 (a0_3 / 65536) 255) ((Go.bits .and .i64 (a0_3 / 32768) 1) == 1) (Go.bits .and .i64 a0_3 32767) y183) = some (r1, r2, r3, r4, r5, r6, r7) := by first | (rw [hy183]; with_reducible exact H) | (have H2_ := (Option.bind_some _ _).symm.trans H; rw [hy183]; with_reducible exact H2_) | (have H2_ := (Option.bind_some _ _).symm.trans H; with_reducible exact H2_) | with_reducible exact H | (rw [hy183]; exact H) | exact H
                            have Ny183 := Aside0.mk hy183
                            clear hy183
                            have H' := Aside0.mk H
                            clear H
                            have hnb49 := NB172_173.out
                            have hnc49 := NB173_172.out
                            have hnb50 := NB172_176.out
                            have hnc50 := NB176_172.out
                            have hcz51_0 : wr.cell? ⟨gb172, 0, none⟩ = some (.string a0_0) := (blk_cell BK172.out 0).trans rfl
                            have hcz51_1 : wr.cell? ⟨gb172, 1, none⟩ = some (.int .i64 a0_1) := (blk_cell BK172.out 1).trans rfl
                            have hcz51_2 : wr.cell? ⟨gb172, 2, none⟩ = some (.int .i64 a0_2) := (blk_cell BK172.out 2).trans rfl
                            have hcz51_3 : wr.cell? ⟨gb172, 3, none⟩ = some (.int .i64 a0_3) := (blk_cell BK172.out 3).trans rfl
                            have hcz51_4 : wr.cell? ⟨gb172, 4, none⟩ = some (.string a0_4) := (blk_cell BK172.out 4).trans rfl
                            have hfz51_0 := blk_frozen BK172.out 0
                            have hfz51_1 := blk_frozen BK172.out 1
                            have hfz51_2 := blk_frozen BK172.out 2
                            have hfz51_3 := blk_frozen BK172.out 3
                            have hfz51_4 := blk_frozen BK172.out 4
                            try go_wp2_with (first | ((with_reducible refine gate_dst (N := 66) rfl ?_); (try (refine gate_guard (by rfl) ?_; dsimp only)); (with_reducible refine gate_callee (f := 53) rfl ?_); refine goesL_ (some 66) rfl rfl Try.func53 (by kernel_rfl) rfl #[.string a0_4, .int .i64 x5_2, .int .i64 2] rfl (by (try simp only [List.map_toArray, List.map_cons, List.map_nil]); first | done | rfl | (simp only [List.length_drop, List.length_take]; rfl)) ?_; (with_reducible refine (wimpleref1_Num.calls k2 a0_4 x5_2 2 t177 t178 t179 _ A31.out).mono ?_); rintro e w' ⟨rfl, ⟨nd, rfl⟩⟩; refine ⟨_, rfl, ?_⟩; (try (rw [drewN_self wr]; generalize hq_ : World.drewN wr _ = wr; have n0_ : Aside0 (Kd.R k52 52 wr w.heap.size (fun _ => True) u177005 x177005_2) := ⟨by rw [← hq_]; exact (by (with_reducible repeat (first | apply Kd.R_alloc | apply Kd.R_drewN | apply Kd.R_drew)); exact HO_177005.out)⟩; have n1_ : Aside0 (wr.heap[gb172]? = some (.cells #[.string a0_0, .int .i64 a0_1, .int .i64 a0_2, .int .i64 a0_3, .string a0_4] 26 (0, 0))) := ⟨by rw [← hq_]; exact (by (with_reducible repeat (first | refine blk_drewN ?_ _ | refine blk_drew ?_ | refine blk_alloc ?_ _)); exact BK172.out)⟩; have n2_ : Aside0 (wr.heap[gb173]? = some (.cells #[.int .i64 x174000_2, .int .i64 x174001_2, .int .i64 x174002_2, .bool x174003_2, .int .i64 x174004_2, .slice none 0 0] 24 (0, 0))) := ⟨by rw [← hq_]; exact (by (with_reducible repeat (first | refine blk_drewN ?_ _ | refine blk_drew ?_ | refine blk_alloc ?_ _)); exact BK173.out)⟩; have n3_ : Aside0 (wr.heap[gb176]? = some (.cells #[.int .i64 a0_2, .int .i64 (a0_3 / 16777216), .int .i64 (Go.bits .and .i64 (a0_3 / 65536) 255), .bool ((Go.bits .and .i64 (a0_3 / 32768) 1) == 1), .int .i64 (Go.bits .and .i64 a0_3 32767), u177005] 24 (0, 0))) := ⟨by rw [← hq_]; exact (by (with_reducible repeat (first | refine blk_drewN ?_ _ | refine blk_drew ?_ | refine blk_alloc ?_ _)); exact BK176.out)⟩; have n4_ : Aside0 (Below w.heap.size w wr) := ⟨by rw [← hq_]; exact (by repeat (first | (with_reducible first | exact HB.out | apply below_alloc | apply pw_below_drewN | apply below_drew1 | refine below_set ?_ GE172.out | refine below_set ?_ GE173.out | refine below_set ?_ GE176.out) | exact HB.out))⟩; clear HO_177005 BK172 BK173 BK176 HB hq_; have HO_177005 := n0_; have BK172 := n1_; have BK173 := n2_; have BK176 := n3_; have HB := n4_; clear n0_ n1_ n2_ n3_ n4_)); have hcz52_0 : wr.cell? ⟨gb172, 0, none⟩ = some (.string a0_0) := (blk_cell BK172.out 0).trans rfl; have hcz52_1 : wr.cell? ⟨gb172, 1, none⟩ = some (.int .i64 a0_1) := (blk_cell BK172.out 1).trans rfl; have hcz52_2 : wr.cell? ⟨gb172, 2, none⟩ = some (.int .i64 a0_2) := (blk_cell BK172.out 2).trans rfl; have hcz52_3 : wr.cell? ⟨gb172, 3, none⟩ = some (.int .i64 a0_3) := (blk_cell BK172.out 3).trans rfl; have hcz52_4 : wr.cell? ⟨gb172, 4, none⟩ = some (.string a0_4) := (blk_cell BK172.out 4).trans rfl; have hfz52_0 := blk_frozen BK172.out 0; have hfz52_1 := blk_frozen BK172.out 1; have hfz52_2 := blk_frozen BK172.out 2; have hfz52_3 := blk_frozen BK172.out 3; have hfz52_4 := blk_frozen BK172.out 4; have hcz53_0 : wr.cell? ⟨gb173, 0, none⟩ = some (.int .i64 x174000_2) := (blk_cell BK173.out 0).trans rfl; have hcz53_1 : wr.cell? ⟨gb173, 1, none⟩ = some (.int .i64 x174001_2) := (blk_cell BK173.out 1).trans rfl; have hcz53_2 : wr.cell? ⟨gb173, 2, none⟩ = some (.int .i64 x174002_2) := (blk_cell BK173.out 2).trans rfl; have hcz53_3 : wr.cell? ⟨gb173, 3, none⟩ = some (.bool x174003_2) := (blk_cell BK173.out 3).trans rfl; have hcz53_4 : wr.cell? ⟨gb173, 4, none⟩ = some (.int .i64 x174004_2) := (blk_cell BK173.out 4).trans rfl; have hcz53_5 : wr.cell? ⟨gb173, 5, none⟩ = some (.slice none 0 0) := (blk_cell BK173.out 5).trans rfl; have hfz53_0 := blk_frozen BK173.out 0; have hfz53_1 := blk_frozen BK173.out 1; have hfz53_2 := blk_frozen BK173.out 2; have hfz53_3 := blk_frozen BK173.out 3; have hfz53_4 := blk_frozen BK173.out 4; have hfz53_5 := blk_frozen BK173.out 5; have hcz54_0 : wr.cell? ⟨gb176, 0, none⟩ = some (.int .i64 a0_2) := (blk_cell BK176.out 0).trans rfl; have hcz54_1 : wr.cell? ⟨gb176, 1, none⟩ = some (.int .i64 (a0_3 / 16777216)) := (blk_cell BK176.out 1).trans rfl; have hcz54_2 : wr.cell? ⟨gb176, 2, none⟩ = some (.int .i64 (Go.bits .and .i64 (a0_3 / 65536) 255)) := (blk_cell BK176.out 2).trans rfl; have hcz54_3 : wr.cell? ⟨gb176, 3, none⟩ = some (.bool ((Go.bits .and .i64 (a0_3 / 32768) 1) == 1)) := (blk_cell BK176.out 3).trans rfl; have hcz54_4 : wr.cell? ⟨gb176, 4, none⟩ = some (.int .i64 (Go.bits .and .i64 a0_3 32767)) := (blk_cell BK176.out 4).trans rfl; have hcz54_5 : wr.cell? ⟨gb176, 5, none⟩ = some (u177005) := (blk_cell BK176.out 5).trans rfl; have hfz54_0 := blk_frozen BK176.out 0; have hfz54_1 := blk_frozen BK176.out 1; have hfz54_2 := blk_frozen BK176.out 2; have hfz54_3 := blk_frozen BK176.out 3; have hfz54_4 := blk_frozen BK176.out 4; have hfz54_5 := blk_frozen BK176.out 5) | ((with_reducible refine gate_dst (N := 74) rfl ?_); (try (refine gate_guard (by rfl) ?_; dsimp only)); (with_reducible refine gate_callee (f := 53) rfl ?_); refine goesL_ (some 74) rfl rfl Try.func53 (by kernel_rfl) rfl #[.string a0_4, .int .i64 t178, .int .i64 2] rfl (by (try simp only [List.map_toArray, List.map_cons, List.map_nil]); first | done | rfl | (simp only [List.length_drop, List.length_take]; rfl)) ?_; (with_reducible refine (wimpleref1_Num.calls k2 a0_4 t178 2 t180 t181 t182 _ A32.out).mono ?_); rintro e w' ⟨rfl, ⟨nd, rfl⟩⟩; refine ⟨_, rfl, ?_⟩; (try (rw [drewN_self wr]; generalize hq_ : World.drewN wr _ = wr; have n0_ : Aside0 (Kd.R k52 52 wr w.heap.size (fun _ => True) u177005 x177005_2) := ⟨by rw [← hq_]; exact (by (with_reducible repeat (first | apply Kd.R_alloc | apply Kd.R_drewN | apply Kd.R_drew)); exact HO_177005.out)⟩; have n1_ : Aside0 (wr.heap[gb172]? = some (.cells #[.string a0_0, .int .i64 a0_1, .int .i64 a0_2, .int .i64 a0_3, .string a0_4] 26 (0, 0))) := ⟨by rw [← hq_]; exact (by (with_reducible repeat (first | refine blk_drewN ?_ _ | refine blk_drew ?_ | refine blk_alloc ?_ _)); exact BK172.out)⟩; have n2_ : Aside0 (wr.heap[gb173]? = some (.cells #[.int .i64 x174000_2, .int .i64 x174001_2, .int .i64 x174002_2, .bool x174003_2, .int .i64 x174004_2, .slice none 0 0] 24 (0, 0))) := ⟨by rw [← hq_]; exact (by (with_reducible repeat (first | refine blk_drewN ?_ _ | refine blk_drew ?_ | refine blk_alloc ?_ _)); exact BK173.out)⟩; have n3_ : Aside0 (wr.heap[gb176]? = some (.cells #[.int .i64 a0_2, .int .i64 (a0_3 / 16777216), .int .i64 (Go.bits .and .i64 (a0_3 / 65536) 255), .bool ((Go.bits .and .i64 (a0_3 / 32768) 1) == 1), .int .i64 (Go.bits .and .i64 a0_3 32767), u177005] 24 (0, 0))) := ⟨by rw [← hq_]; exact (by (with_reducible repeat (first | refine blk_drewN ?_ _ | refine blk_drew ?_ | refine blk_alloc ?_ _)); exact BK176.out)⟩; have n4_ : Aside0 (Below w.heap.size w wr) := ⟨by rw [← hq_]; exact (by repeat (first | (with_reducible first | exact HB.out | apply below_alloc | apply pw_below_drewN | apply below_drew1 | refine below_set ?_ GE172.out | refine below_set ?_ GE173.out | refine below_set ?_ GE176.out) | exact HB.out))⟩; clear HO_177005 BK172 BK173 BK176 HB hq_; have HO_177005 := n0_; have BK172 := n1_; have BK173 := n2_; have BK176 := n3_; have HB := n4_; clear n0_ n1_ n2_ n3_ n4_)); have hcz55_0 : wr.cell? ⟨gb172, 0, none⟩ = some (.string a0_0) := (blk_cell BK172.out 0).trans rfl; have hcz55_1 : wr.cell? ⟨gb172, 1, none⟩ = some (.int .i64 a0_1) := (blk_cell BK172.out 1).trans rfl; have hcz55_2 : wr.cell? ⟨gb172, 2, none⟩ = some (.int .i64 a0_2) := (blk_cell BK172.out 2).trans rfl; have hcz55_3 : wr.cell? ⟨gb172, 3, none⟩ = some (.int .i64 a0_3) := (blk_cell BK172.out 3).trans rfl; have hcz55_4 : wr.cell? ⟨gb172, 4, none⟩ = some (.string a0_4) := (blk_cell BK172.out 4).trans rfl; have hfz55_0 := blk_frozen BK172.out 0; have hfz55_1 := blk_frozen BK172.out 1; have hfz55_2 := blk_frozen BK172.out 2; have hfz55_3 := blk_frozen BK172.out 3; have hfz55_4 := blk_frozen BK172.out 4; have hcz56_0 : wr.cell? ⟨gb173, 0, none⟩ = some (.int .i64 x174000_2) := (blk_cell BK173.out 0).trans rfl; have hcz56_1 : wr.cell? ⟨gb173, 1, none⟩ = some (.int .i64 x174001_2) := (blk_cell BK173.out 1).trans rfl; have hcz56_2 : wr.cell? ⟨gb173, 2, none⟩ = some (.int .i64 x174002_2) := (blk_cell BK173.out 2).trans rfl; have hcz56_3 : wr.cell? ⟨gb173, 3, none⟩ = some (.bool x174003_2) := (blk_cell BK173.out 3).trans rfl; have hcz56_4 : wr.cell? ⟨gb173, 4, none⟩ = some (.int .i64 x174004_2) := (blk_cell BK173.out 4).trans rfl; have hcz56_5 : wr.cell? ⟨gb173, 5, none⟩ = some (.slice none 0 0) := (blk_cell BK173.out 5).trans rfl; have hfz56_0 := blk_frozen BK173.out 0; have hfz56_1 := blk_frozen BK173.out 1; have hfz56_2 := blk_frozen BK173.out 2; have hfz56_3 := blk_frozen BK173.out 3; have hfz56_4 := blk_frozen BK173.out 4; have hfz56_5 := blk_frozen BK173.out 5; have hcz57_0 : wr.cell? ⟨gb176, 0, none⟩ = some (.int .i64 a0_2) := (blk_cell BK176.out 0).trans rfl; have hcz57_1 : wr.cell? ⟨gb176, 1, none⟩ = some (.int .i64 (a0_3 / 16777216)) := (blk_cell BK176.out 1).trans rfl; have hcz57_2 : wr.cell? ⟨gb176, 2, none⟩ = some (.int .i64 (Go.bits .and .i64 (a0_3 / 65536) 255)) := (blk_cell BK176.out 2).trans rfl; have hcz57_3 : wr.cell? ⟨gb176, 3, none⟩ = some (.bool ((Go.bits .and .i64 (a0_3 / 32768) 1) == 1)) := (blk_cell BK176.out 3).trans rfl; have hcz57_4 : wr.cell? ⟨gb176, 4, none⟩ = some (.int .i64 (Go.bits .and .i64 a0_3 32767)) := (blk_cell BK176.out 4).trans rfl; have hcz57_5 : wr.cell? ⟨gb176, 5, none⟩ = some (u177005) := (blk_cell BK176.out 5).trans rfl; have hfz57_0 := blk_frozen BK176.out 0; have hfz57_1 := blk_frozen BK176.out 1; have hfz57_2 := blk_frozen BK176.out 2; have hfz57_3 := blk_frozen BK176.out 3; have hfz57_4 := blk_frozen BK176.out 4; have hfz57_5 := blk_frozen BK176.out 5))
                            have n0_ := Aside0.mk (Kd.R_drew HO_177005.out)
                            have n1_ := Aside0.mk (blk_drew BK172.out)
                            have n2_ := Aside0.mk (blk_drew BK173.out)
                            have n3_ := Aside0.mk (blk_drew BK176.out)
                            have n4_ := Aside0.mk (below_drew1 HB.out)
                            clear HO_177005
                            clear BK172
                            clear BK173
                            clear BK176
                            clear HB
                            have HO_177005 := n0_
                            have BK172 := n1_
                            have BK173 := n2_
                            have BK176 := n3_
                            have HB := n4_
                            clear n0_ n1_ n2_ n3_ n4_
                            refine start_ (n := 15) (S := fun w' => w'.cell? ⟨gb176, 0, none⟩ = some (.int .i64 a0_2) ∧ w'.cell? ⟨gb176, 1, none⟩ = some (.int .i64 (a0_3 / 16777216)) ∧ w'.cell? ⟨gb176, 2, none⟩ = some (.int .i64 (Go.bits .and .i64 (a0_3 / 65536) 255)) ∧ w'.cell? ⟨gb176, 3, none⟩ = some (.bool ((Go.bits .and .i64 (a0_3 / 32768) 1) == 1)) ∧ w'.cell? ⟨gb176, 4, none⟩ = some (.int .i64 (Go.bits .and .i64 a0_3 32767)) ∧ w'.cell? ⟨gb176, 5, none⟩ = some (u177005) ∧ w'.cell? ⟨gb172, 0, none⟩ = some (.string a0_0) ∧ w'.cell? ⟨gb172, 1, none⟩ = some (.int .i64 a0_1) ∧ w'.cell? ⟨gb172, 2, none⟩ = some (.int .i64 a0_2) ∧ w'.cell? ⟨gb172, 3, none⟩ = some (.int .i64 a0_3) ∧ w'.cell? ⟨gb172, 4, none⟩ = some (.string a0_4)) (ds := [14]) #[false, false, false, false, false, false, false, false, false, false, false, false, false, false, false] (by kernel_rfl) rfl rfl ⟨(blk_cell BK176.out 0).trans rfl, (blk_cell BK176.out 1).trans rfl, (blk_cell BK176.out 2).trans rfl, (blk_cell BK176.out 3).trans rfl, (blk_cell BK176.out 4).trans rfl, (blk_cell BK176.out 5).trans rfl, (blk_cell BK172.out 0).trans rfl, (blk_cell BK172.out 1).trans rfl, (blk_cell BK172.out 2).trans rfl, (blk_cell BK172.out 3).trans rfl, (blk_cell BK172.out 4).trans rfl⟩ (fun hHeld => ?_); refine with_tabW wimpleref4_GetOpt.tab10 wimpleref4_GetOpt.bits10 (fun HT_ HW_ => ?_)
                            generalize wr.drew = w58 at HO_177005 BK172 BK173 BK176 HB hHeld ⊢
                            refine pure_ (i := 0) (N := some 94) (v := ?_) (a' := ?_) #[true, false, false, false, false, false, false, false, false, false, false, false, false, false, false] rfl rfl (any_of HT_.out (by kernel_rfl)) (fun _ _ _ h => h) (Or.inl ⟨by rfl, ?_⟩) ?_ ?_
                            rotate_left
                            · intro w'
                              go_simp
                              with_reducible rfl
                            rotate_left
                            · simp only [Act.put, List.setIfInBounds_toArray, List.set_cons_zero, List.set_cons_succ, i64_w, i32_w]
                              rfl
                            refine pure_ (i := 2) (N := some 96) (v := ?_) (a' := ?_) #[true, false, true, false, false, false, false, false, false, false, false, false, false, false, false] rfl rfl (any_of HT_.out (by kernel_rfl)) (fun _ _ _ h => h) (Or.inl ⟨by rfl, ?_⟩) ?_ ?_
                            rotate_left
                            · intro w'
                              go_simp
                              with_reducible rfl
                            rotate_left
                            · simp only [Act.put, List.setIfInBounds_toArray, List.set_cons_zero, List.set_cons_succ, i64_w, i32_w]
                              rfl
                            refine pure_ (i := 3) (N := some 97) (v := ?_) (a' := ?_) #[true, false, true, true, false, false, false, false, false, false, false, false, false, false, false] rfl rfl (any_of HT_.out (by kernel_rfl)) (fun _ _ _ h => h) (Or.inl ⟨by rfl, ?_⟩) ?_ ?_
                            rotate_left
                            · intro w'
                              go_simp
                              with_reducible rfl
                            rotate_left
                            · simp only [Act.put, List.setIfInBounds_toArray, List.set_cons_zero, List.set_cons_succ, i64_w, i32_w]
                              rfl
                            refine pure_ (i := 5) (N := some 99) (v := ?_) (a' := ?_) #[true, false, true, true, false, true, false, false, false, false, false, false, false, false, false] rfl rfl (any_of HT_.out (by kernel_rfl)) (fun _ _ _ h => h) (Or.inl ⟨by rfl, ?_⟩) ?_ ?_
                            rotate_left
                            · intro w'
                              go_simp
                              with_reducible rfl
                            rotate_left
                            · simp only [Act.put, List.setIfInBounds_toArray, List.set_cons_zero, List.set_cons_succ, i64_w, i32_w]
                              rfl
                            refine pure_ (i := 6) (N := some 100) (v := ?_) (a' := ?_) #[true, false, true, true, false, true, true, false, false, false, false, false, false, false, false] rfl rfl (any_of HT_.out (by kernel_rfl)) (fun _ _ _ h => h) (Or.inl ⟨by rfl, ?_⟩) ?_ ?_
                            rotate_left
                            · intro w'
                              go_simp
                              with_reducible rfl
                            rotate_left
                            · simp only [Act.put, List.setIfInBounds_toArray, List.set_cons_zero, List.set_cons_succ, i64_w, i32_w]
                              rfl
                            refine pure_ (i := 7) (N := some 101) (v := ?_) (a' := ?_) #[true, false, true, true, false, true, true, true, false, false, false, false, false, false, false] rfl rfl (any_of HT_.out (by kernel_rfl)) (fun _ _ _ h => h) (Or.inl ⟨by rfl, ?_⟩) ?_ ?_
                            rotate_left
                            · intro w'
                              go_simp
                              with_reducible rfl
                            rotate_left
                            · simp only [Act.put, List.setIfInBounds_toArray, List.set_cons_zero, List.set_cons_succ, i64_w, i32_w]
                              rfl
                            refine pure_ (i := 8) (N := some 102) (v := ?_) (a' := ?_) #[true, false, true, true, false, true, true, true, true, false, false, false, false, false, false] rfl rfl (any_of HT_.out (by kernel_rfl)) (fun _ _ _ h => h) (Or.inl ⟨by rfl, ?_⟩) ?_ ?_
                            rotate_left
                            · intro w'
                              go_simp
                              with_reducible rfl
                            rotate_left
                            · simp only [Act.put, List.setIfInBounds_toArray, List.set_cons_zero, List.set_cons_succ, i64_w, i32_w]
                              rfl
                            refine take_ (i := 1) (N := some 95) (v := ?_) (a' := ?_) #[true, true, true, true, false, true, true, true, true, false, false, false, false, false, false] rfl rfl (take_ofW HT_.out HW_.out (by kernel_rfl)) (fun _ _ _ h => h) (Or.inl ⟨by rfl, ?_⟩) hHeld ?_ ?_
                            rotate_left
                            · rintro w' ⟨s0, s1, s2, s3, s4, s5, s6, s7, s8, s9, s10⟩
                              go_simp
                              with_reducible rfl
                            rotate_left
                            · simp only [Act.put, List.setIfInBounds_toArray, List.set_cons_zero, List.set_cons_succ, i64_w, i32_w]
                              rfl
                            refine take_ (i := 4) (N := some 98) (v := ?_) (a' := ?_) #[true, true, true, true, true, true, true, true, true, false, false, false, false, false, false] rfl rfl (take_ofW HT_.out HW_.out (by kernel_rfl)) (fun _ _ _ h => h) (Or.inl ⟨by rfl, ?_⟩) hHeld ?_ ?_
                            rotate_left
                            · rintro w' ⟨s0, s1, s2, s3, s4, s5, s6, s7, s8, s9, s10⟩
                              go_simp
                              with_reducible rfl
                            rotate_left
                            · simp only [Act.put, List.setIfInBounds_toArray, List.set_cons_zero, List.set_cons_succ, i64_w, i32_w]
                              rfl
                            refine pure_ (i := 9) (N := some 103) (v := ?_) (a' := ?_) #[true, true, true, true, true, true, true, true, true, true, false, false, false, false, false] rfl rfl (any_of HT_.out (by kernel_rfl)) (fun _ _ _ h => h) (Or.inl ⟨by rfl, ?_⟩) ?_ ?_
                            rotate_left
                            · intro w'
                              go_simp
                              with_reducible rfl
                            rotate_left
                            · simp only [Act.put, List.setIfInBounds_toArray, List.set_cons_zero, List.set_cons_succ, i64_w, i32_w]
                              rfl
                            refine pure_ (i := 10) (N := some 104) (v := ?_) (a' := ?_) #[true, true, true, true, true, true, true, true, true, true, true, false, false, false, false] rfl rfl (any_of HT_.out (by kernel_rfl)) (fun _ _ _ h => h) (Or.inl ⟨by rfl, ?_⟩) ?_ ?_
                            rotate_left
                            · intro w'
                              go_simp
                              with_reducible rfl
                            rotate_left
                            · simp only [Act.put, List.setIfInBounds_toArray, List.set_cons_zero, List.set_cons_succ, i64_w, i32_w]
                              rfl
                            refine one_ (i := 11) (N := some 105) #[true, true, true, true, true, true, true, true, true, true, true, true, false, false, false] rfl rfl (one_of HT_.out (by kernel_rfl)) (by decide) (fun K hK => ?_)
                            refine value_ (w1 := ?_) (v := ?_) (by rfl) rfl ?_ ?_
                            rotate_left 2
                            · go_simp
                              constructor
                              · rfl
                              · rfl
                            refine hK.out _ _ ⟨(blk_cell (blk_alloc BK176.out _) 0).trans rfl, (blk_cell (blk_alloc BK176.out _) 1).trans rfl, (blk_cell (blk_alloc BK176.out _) 2).trans rfl, (blk_cell (blk_alloc BK176.out _) 3).trans rfl, (blk_cell (blk_alloc BK176.out _) 4).trans rfl, (blk_cell (blk_alloc BK176.out _) 5).trans rfl, (blk_cell (blk_alloc BK172.out _) 0).trans rfl, (blk_cell (blk_alloc BK172.out _) 1).trans rfl, (blk_cell (blk_alloc BK172.out _) 2).trans rfl, (blk_cell (blk_alloc BK172.out _) 3).trans rfl, (blk_cell (blk_alloc BK172.out _) 4).trans rfl⟩ (fun hHeld => ?_)
                            clear hK K
                            refine norm_ (a' := ?_) ?_ ?_
                            rotate_left
                            · show Act.put _ (some 105) _ = _
                              simp only [Act.put, List.setIfInBounds_toArray, List.set_cons_zero, List.set_cons_succ, i64_w, i32_w]
                              rfl
                            refine one_ (i := 12) (N := some 106) #[true, true, true, true, true, true, true, true, true, true, true, true, true, false, false] rfl rfl (one_of HT_.out (by kernel_rfl)) (by decide) (fun K hK => ?_)
                            refine Kd.R_append_step k52 (w0 := w) w.heap.size (by rfl) (.tmp 95) (.tmp 105) 22 52 (.agg #[(.int .i64 0), (.string ⟨#[]⟩)]) 24 rfl Try.underlying22 info52 rfl (by decide) (by omega) u177005 x177005_2 (⟨t177, a0_4.extract (t181 : Int).toNat ((wrap64 (t181 + t180)) : Int).toNat⟩ : S52) [.int .i64 t177, .string (a0_4.extract (t181 : Int).toNat ((wrap64 (t181 + t180)) : Int).toNat)] (fun _ => True) (fun _ => False) rfl rfl ?aP (fun _ hk => hk.elim) ?aF ?aO ?aB ?aS ?aL ?_
                            (case aP => exact k52_mkM _ _ _ (⟨t177, a0_4.extract (t181 : Int).toNat ((wrap64 (t181 + t180)) : Int).toNat⟩ : S52))
                            (case aB => exact (by repeat (first | (with_reducible first | exact HB.out | apply below_alloc | apply pw_below_drewN | apply below_drew1 | refine below_set ?_ GE172.out | refine below_set ?_ GE173.out | refine below_set ?_ GE176.out) | exact HB.out)))
                            (case aF => exact (fun _ _ => trivial))
                            (case aO => exact (by (with_reducible repeat (first | apply Kd.R_alloc | apply Kd.R_drewN | apply Kd.R_drew)); exact HO_177005.out))
                            (case aS => exact (below_size (by repeat (first | (with_reducible first | exact HB.out | apply below_alloc | apply pw_below_drewN | apply below_drew1 | refine below_set ?_ GE172.out | refine below_set ?_ GE173.out | refine below_set ?_ GE176.out) | exact HB.out))))
                            (case aL => have := LMc48.out; omega)
                            intro v184 w59 ho hb hg hat
                            rw [← Ny183.out] at ho
                            have n0_ := Aside0.mk (blk_grown (g := gb172) (o := .cells #[.string a0_0, .int .i64 a0_1, .int .i64 a0_2, .int .i64 a0_3, .string a0_4] 26 (0, 0)) (by (with_reducible repeat (first | refine blk_drewN ?_ _ | refine blk_drew ?_ | refine blk_alloc ?_ _)); exact BK172.out) hg (Kd.R_ne HO_177005.out BK172.out (by decide)))
                            have n1_ := Aside0.mk (blk_grown (g := gb173) (o := .cells #[.int .i64 x174000_2, .int .i64 x174001_2, .int .i64 x174002_2, .bool x174003_2, .int .i64 x174004_2, .slice none 0 0] 24 (0, 0)) (by (with_reducible repeat (first | refine blk_drewN ?_ _ | refine blk_drew ?_ | refine blk_alloc ?_ _)); exact BK173.out) hg (Kd.R_ne HO_177005.out BK173.out (by decide)))
                            have n2_ := Aside0.mk (blk_grown (g := gb176) (o := .cells #[.int .i64 a0_2, .int .i64 (a0_3 / 16777216), .int .i64 (Go.bits .and .i64 (a0_3 / 65536) 255), .bool ((Go.bits .and .i64 (a0_3 / 32768) 1) == 1), .int .i64 (Go.bits .and .i64 a0_3 32767), u177005] 24 (0, 0)) (by (with_reducible repeat (first | refine blk_drewN ?_ _ | refine blk_drew ?_ | refine blk_alloc ?_ _)); exact BK176.out) hg (Kd.R_ne HO_177005.out BK176.out (by decide)))
                            have n3_ := Aside0.mk (hb)
                            have n4_ := Aside0.mk (ho)
                            clear BK172
                            clear BK173
                            clear BK176
                            clear HB
                            clear HO_177005
                            have BK172 := n0_
                            have BK173 := n1_
                            have BK176 := n2_
                            have HB := n3_
                            have HO185 := n4_
                            clear n0_ n1_ n2_ n3_ n4_
                            clear ho hb hg hat
                            obtain ⟨Ao60, co60, eo60⟩ := Kd.R_slice HO185.out
                            (first | subst eo60 | (injection eo60 with f1_ f2_ f3_; have f4_ := f1_.symm; have f5_ := f3_.symm; clear f1_ f2_ f3_; subst f4_; subst f5_))
                            refine hK.out _ _ ⟨(blk_cell BK176.out 0).trans rfl, (blk_cell BK176.out 1).trans rfl, (blk_cell BK176.out 2).trans rfl, (blk_cell BK176.out 3).trans rfl, (blk_cell BK176.out 4).trans rfl, (blk_cell BK176.out 5).trans rfl, (blk_cell BK172.out 0).trans rfl, (blk_cell BK172.out 1).trans rfl, (blk_cell BK172.out 2).trans rfl, (blk_cell BK172.out 3).trans rfl, (blk_cell BK172.out 4).trans rfl⟩ (fun hHeld => ?_)
                            clear hK K
                            refine norm_ (a' := ?_) ?_ ?_
                            rotate_left
                            · show Act.put _ (some 106) _ = _
                              simp only [Act.put, List.setIfInBounds_toArray, List.set_cons_zero, List.set_cons_succ, i64_w, i32_w]
                              rfl
                            refine pure_ (i := 13) (N := some 107) (v := ?_) (a' := ?_) #[true, true, true, true, true, true, true, true, true, true, true, true, true, true, false] rfl rfl (any_of HT_.out (by kernel_rfl)) (fun _ _ _ h => h) (Or.inl ⟨by rfl, ?_⟩) ?_ ?_
                            rotate_left
                            · intro w'
                              go_simp
                              with_reducible rfl
                            rotate_left
                            · simp only [Act.put, List.setIfInBounds_toArray, List.set_cons_zero, List.set_cons_succ, i64_w, i32_w]
                              rfl
                            refine last_ (i := 14) (N := none) #[true, true, true, true, true, true, true, true, true, true, true, true, true, true, true] rfl rfl (one_of HT_.out (by kernel_rfl)) (by decide) (fun K hK => ?_)
                            have hs61 : w59.cell? ⟨gb176, 5, none⟩ = some (u177005) := (blk_cell BK176.out 5).trans rfl
                            have hfs61 := blk_frozen BK176.out 5
                            have hns61_0 := NB172_176.out
                            have hns61_1 := NB173_176.out
                            have hms61_0 := NB176_172.out
                            have hms61_1 := NB176_173.out
                            refine skip_ (w1 := ?_) (by rfl) rfl ?_ ?_
                            rotate_left
                            · go_simp
                              rfl
                            refine hK.out _ _ ?_
                            clear hK K
                            refine done_ (done_of HT_.out (by kernel_rfl)) ?_
                            try go_wp2
                            go_roundg k2
                            case measure => have := HJ1.out; have := HK2.out; omega
                            case rel => exact ⟨(wrap64 (t181 + t180)), (x174000_2), (x174001_2), (x174002_2), (x174003_2), (x174004_2), (y183), (.slice Ao60 y183.length co60), (by first | rfl | (simp; done) | (simp [*]; done)), H', ⟨by have := HJ1.out; have := HK2.out; omega⟩, ⟨by (with_reducible repeat (first | apply Kd.R_alloc | apply Kd.R_drewN | apply Kd.R_drew)); exact Kd.R_mono (Kd.R_far (p := ⟨gb176, 5, none⟩) (Kd.R_types HO185.out BK176.out (by decide)) (fun _ hk => hk.2) (.slice Ao60 y183.length co60)) (fun _ hk => trivial)⟩, ⟨by (with_reducible repeat (first | refine blk_drewN ?_ _ | refine blk_drew ?_ | refine blk_alloc ?_ _)); refine blk_far ?_ NB172_176.out _; (with_reducible repeat (first | refine blk_drewN ?_ _ | refine blk_drew ?_ | refine blk_alloc ?_ _)); exact BK172.out⟩, ⟨by (with_reducible repeat (first | refine blk_drewN ?_ _ | refine blk_drew ?_ | refine blk_alloc ?_ _)); refine blk_far ?_ NB173_176.out _; (with_reducible repeat (first | refine blk_drewN ?_ _ | refine blk_drew ?_ | refine blk_alloc ?_ _)); exact BK173.out⟩, ⟨by (with_reducible repeat (first | refine blk_drewN ?_ _ | refine blk_drew ?_ | refine blk_alloc ?_ _)); refine blk_put (cs := #[.int .i64 a0_2, .int .i64 (a0_3 / 16777216), .int .i64 (Go.bits .and .i64 (a0_3 / 65536) 255), .bool ((Go.bits .and .i64 (a0_3 / 32768) 1) == 1), .int .i64 (Go.bits .and .i64 a0_3 32767), u177005]) ?_ 5 _ rfl; (with_reducible repeat (first | refine blk_drewN ?_ _ | refine blk_drew ?_ | refine blk_alloc ?_ _)); exact BK176.out⟩, ⟨by repeat (first | (with_reducible first | exact HB.out | apply below_alloc | apply pw_below_drewN | apply below_drew1 | refine below_set ?_ GE172.out | refine below_set ?_ GE173.out | refine below_set ?_ GE176.out) | exact HB.out)⟩⟩
                          · rw [if_neg c48] at H
                            exact absurd H (by simp)
                        · rw [if_neg c47] at H
                          exact absurd H (by simp)
                      · rw [if_neg c46] at H
                        exact absurd H (by simp)
                    · rw [if_neg c45] at H
                      exact absurd H (by simp)
                · rw [if_neg c34] at H
                  have c34b0 : (t182 == 0) = false := beq_eq_false_iff_ne.mpr c34
                  have c34b1 : (t182 != 0) = true := bne_iff_ne.mpr c34
                  simp only [Option.some.injEq, Prod.mk.injEq] at H
                  obtain ⟨rfl, rfl, rfl, rfl, rfl, rfl, rfl⟩ := H
                  have hnb62 := NB172_173.out
                  have hnc62 := NB173_172.out
                  have hnb63 := NB172_176.out
                  have hnc63 := NB176_172.out
                  have hcz64_0 : wr.cell? ⟨gb172, 0, none⟩ = some (.string a0_0) := (blk_cell BK172.out 0).trans rfl
                  have hcz64_1 : wr.cell? ⟨gb172, 1, none⟩ = some (.int .i64 a0_1) := (blk_cell BK172.out 1).trans rfl
                  have hcz64_2 : wr.cell? ⟨gb172, 2, none⟩ = some (.int .i64 a0_2) := (blk_cell BK172.out 2).trans rfl
                  have hcz64_3 : wr.cell? ⟨gb172, 3, none⟩ = some (.int .i64 a0_3) := (blk_cell BK172.out 3).trans rfl
                  have hcz64_4 : wr.cell? ⟨gb172, 4, none⟩ = some (.string a0_4) := (blk_cell BK172.out 4).trans rfl
                  have hfz64_0 := blk_frozen BK172.out 0
                  have hfz64_1 := blk_frozen BK172.out 1
                  have hfz64_2 := blk_frozen BK172.out 2
                  have hfz64_3 := blk_frozen BK172.out 3
                  have hfz64_4 := blk_frozen BK172.out 4
                  go_wp2_with (first | ((with_reducible refine gate_dst (N := 66) rfl ?_); (try (refine gate_guard (by rfl) ?_; dsimp only)); (with_reducible refine gate_callee (f := 53) rfl ?_); refine goesL_ (some 66) rfl rfl Try.func53 (by kernel_rfl) rfl #[.string a0_4, .int .i64 x5_2, .int .i64 2] rfl (by (try simp only [List.map_toArray, List.map_cons, List.map_nil]); first | done | rfl | (simp only [List.length_drop, List.length_take]; rfl)) ?_; (with_reducible refine (wimpleref1_Num.calls k2 a0_4 x5_2 2 t177 t178 t179 _ A31.out).mono ?_); rintro e w' ⟨rfl, ⟨nd, rfl⟩⟩; refine ⟨_, rfl, ?_⟩; (try (rw [drewN_self wr]; generalize hq_ : World.drewN wr _ = wr; have n0_ : Aside0 (Kd.R k52 52 wr w.heap.size (fun _ => True) u177005 x177005_2) := ⟨by rw [← hq_]; exact (by (with_reducible repeat (first | apply Kd.R_alloc | apply Kd.R_drewN | apply Kd.R_drew)); exact HO_177005.out)⟩; have n1_ : Aside0 (wr.heap[gb172]? = some (.cells #[.string a0_0, .int .i64 a0_1, .int .i64 a0_2, .int .i64 a0_3, .string a0_4] 26 (0, 0))) := ⟨by rw [← hq_]; exact (by (with_reducible repeat (first | refine blk_drewN ?_ _ | refine blk_drew ?_ | refine blk_alloc ?_ _)); exact BK172.out)⟩; have n2_ : Aside0 (wr.heap[gb173]? = some (.cells #[.int .i64 x174000_2, .int .i64 x174001_2, .int .i64 x174002_2, .bool x174003_2, .int .i64 x174004_2, .slice none 0 0] 24 (0, 0))) := ⟨by rw [← hq_]; exact (by (with_reducible repeat (first | refine blk_drewN ?_ _ | refine blk_drew ?_ | refine blk_alloc ?_ _)); exact BK173.out)⟩; have n3_ : Aside0 (wr.heap[gb176]? = some (.cells #[.int .i64 a0_2, .int .i64 (a0_3 / 16777216), .int .i64 (Go.bits .and .i64 (a0_3 / 65536) 255), .bool ((Go.bits .and .i64 (a0_3 / 32768) 1) == 1), .int .i64 (Go.bits .and .i64 a0_3 32767), u177005] 24 (0, 0))) := ⟨by rw [← hq_]; exact (by (with_reducible repeat (first | refine blk_drewN ?_ _ | refine blk_drew ?_ | refine blk_alloc ?_ _)); exact BK176.out)⟩; have n4_ : Aside0 (Below w.heap.size w wr) := ⟨by rw [← hq_]; exact (by repeat (first | (with_reducible first | exact HB.out | apply below_alloc | apply pw_below_drewN | apply below_drew1 | refine below_set ?_ GE172.out | refine below_set ?_ GE173.out | refine below_set ?_ GE176.out) | exact HB.out))⟩; clear HO_177005 BK172 BK173 BK176 HB hq_; have HO_177005 := n0_; have BK172 := n1_; have BK173 := n2_; have BK176 := n3_; have HB := n4_; clear n0_ n1_ n2_ n3_ n4_)); have hcz65_0 : wr.cell? ⟨gb172, 0, none⟩ = some (.string a0_0) := (blk_cell BK172.out 0).trans rfl; have hcz65_1 : wr.cell? ⟨gb172, 1, none⟩ = some (.int .i64 a0_1) := (blk_cell BK172.out 1).trans rfl; have hcz65_2 : wr.cell? ⟨gb172, 2, none⟩ = some (.int .i64 a0_2) := (blk_cell BK172.out 2).trans rfl; have hcz65_3 : wr.cell? ⟨gb172, 3, none⟩ = some (.int .i64 a0_3) := (blk_cell BK172.out 3).trans rfl; have hcz65_4 : wr.cell? ⟨gb172, 4, none⟩ = some (.string a0_4) := (blk_cell BK172.out 4).trans rfl; have hfz65_0 := blk_frozen BK172.out 0; have hfz65_1 := blk_frozen BK172.out 1; have hfz65_2 := blk_frozen BK172.out 2; have hfz65_3 := blk_frozen BK172.out 3; have hfz65_4 := blk_frozen BK172.out 4; have hcz66_0 : wr.cell? ⟨gb173, 0, none⟩ = some (.int .i64 x174000_2) := (blk_cell BK173.out 0).trans rfl; have hcz66_1 : wr.cell? ⟨gb173, 1, none⟩ = some (.int .i64 x174001_2) := (blk_cell BK173.out 1).trans rfl; have hcz66_2 : wr.cell? ⟨gb173, 2, none⟩ = some (.int .i64 x174002_2) := (blk_cell BK173.out 2).trans rfl; have hcz66_3 : wr.cell? ⟨gb173, 3, none⟩ = some (.bool x174003_2) := (blk_cell BK173.out 3).trans rfl; have hcz66_4 : wr.cell? ⟨gb173, 4, none⟩ = some (.int .i64 x174004_2) := (blk_cell BK173.out 4).trans rfl; have hcz66_5 : wr.cell? ⟨gb173, 5, none⟩ = some (.slice none 0 0) := (blk_cell BK173.out 5).trans rfl; have hfz66_0 := blk_frozen BK173.out 0; have hfz66_1 := blk_frozen BK173.out 1; have hfz66_2 := blk_frozen BK173.out 2; have hfz66_3 := blk_frozen BK173.out 3; have hfz66_4 := blk_frozen BK173.out 4; have hfz66_5 := blk_frozen BK173.out 5; have hcz67_0 : wr.cell? ⟨gb176, 0, none⟩ = some (.int .i64 a0_2) := (blk_cell BK176.out 0).trans rfl; have hcz67_1 : wr.cell? ⟨gb176, 1, none⟩ = some (.int .i64 (a0_3 / 16777216)) := (blk_cell BK176.out 1).trans rfl; have hcz67_2 : wr.cell? ⟨gb176, 2, none⟩ = some (.int .i64 (Go.bits .and .i64 (a0_3 / 65536) 255)) := (blk_cell BK176.out 2).trans rfl; have hcz67_3 : wr.cell? ⟨gb176, 3, none⟩ = some (.bool ((Go.bits .and .i64 (a0_3 / 32768) 1) == 1)) := (blk_cell BK176.out 3).trans rfl; have hcz67_4 : wr.cell? ⟨gb176, 4, none⟩ = some (.int .i64 (Go.bits .and .i64 a0_3 32767)) := (blk_cell BK176.out 4).trans rfl; have hcz67_5 : wr.cell? ⟨gb176, 5, none⟩ = some (u177005) := (blk_cell BK176.out 5).trans rfl; have hfz67_0 := blk_frozen BK176.out 0; have hfz67_1 := blk_frozen BK176.out 1; have hfz67_2 := blk_frozen BK176.out 2; have hfz67_3 := blk_frozen BK176.out 3; have hfz67_4 := blk_frozen BK176.out 4; have hfz67_5 := blk_frozen BK176.out 5) | ((with_reducible refine gate_dst (N := 74) rfl ?_); (try (refine gate_guard (by rfl) ?_; dsimp only)); (with_reducible refine gate_callee (f := 53) rfl ?_); refine goesL_ (some 74) rfl rfl Try.func53 (by kernel_rfl) rfl #[.string a0_4, .int .i64 t178, .int .i64 2] rfl (by (try simp only [List.map_toArray, List.map_cons, List.map_nil]); first | done | rfl | (simp only [List.length_drop, List.length_take]; rfl)) ?_; (with_reducible refine (wimpleref1_Num.calls k2 a0_4 t178 2 t180 t181 t182 _ A32.out).mono ?_); rintro e w' ⟨rfl, ⟨nd, rfl⟩⟩; refine ⟨_, rfl, ?_⟩; (try (rw [drewN_self wr]; generalize hq_ : World.drewN wr _ = wr; have n0_ : Aside0 (Kd.R k52 52 wr w.heap.size (fun _ => True) u177005 x177005_2) := ⟨by rw [← hq_]; exact (by (with_reducible repeat (first | apply Kd.R_alloc | apply Kd.R_drewN | apply Kd.R_drew)); exact HO_177005.out)⟩; have n1_ : Aside0 (wr.heap[gb172]? = some (.cells #[.string a0_0, .int .i64 a0_1, .int .i64 a0_2, .int .i64 a0_3, .string a0_4] 26 (0, 0))) := ⟨by rw [← hq_]; exact (by (with_reducible repeat (first | refine blk_drewN ?_ _ | refine blk_drew ?_ | refine blk_alloc ?_ _)); exact BK172.out)⟩; have n2_ : Aside0 (wr.heap[gb173]? = some (.cells #[.int .i64 x174000_2, .int .i64 x174001_2, .int .i64 x174002_2, .bool x174003_2, .int .i64 x174004_2, .slice none 0 0] 24 (0, 0))) := ⟨by rw [← hq_]; exact (by (with_reducible repeat (first | refine blk_drewN ?_ _ | refine blk_drew ?_ | refine blk_alloc ?_ _)); exact BK173.out)⟩; have n3_ : Aside0 (wr.heap[gb176]? = some (.cells #[.int .i64 a0_2, .int .i64 (a0_3 / 16777216), .int .i64 (Go.bits .and .i64 (a0_3 / 65536) 255), .bool ((Go.bits .and .i64 (a0_3 / 32768) 1) == 1), .int .i64 (Go.bits .and .i64 a0_3 32767), u177005] 24 (0, 0))) := ⟨by rw [← hq_]; exact (by (with_reducible repeat (first | refine blk_drewN ?_ _ | refine blk_drew ?_ | refine blk_alloc ?_ _)); exact BK176.out)⟩; have n4_ : Aside0 (Below w.heap.size w wr) := ⟨by rw [← hq_]; exact (by repeat (first | (with_reducible first | exact HB.out | apply below_alloc | apply pw_below_drewN | apply below_drew1 | refine below_set ?_ GE172.out | refine below_set ?_ GE173.out | refine below_set ?_ GE176.out) | exact HB.out))⟩; clear HO_177005 BK172 BK173 BK176 HB hq_; have HO_177005 := n0_; have BK172 := n1_; have BK173 := n2_; have BK176 := n3_; have HB := n4_; clear n0_ n1_ n2_ n3_ n4_)); have hcz68_0 : wr.cell? ⟨gb172, 0, none⟩ = some (.string a0_0) := (blk_cell BK172.out 0).trans rfl; have hcz68_1 : wr.cell? ⟨gb172, 1, none⟩ = some (.int .i64 a0_1) := (blk_cell BK172.out 1).trans rfl; have hcz68_2 : wr.cell? ⟨gb172, 2, none⟩ = some (.int .i64 a0_2) := (blk_cell BK172.out 2).trans rfl; have hcz68_3 : wr.cell? ⟨gb172, 3, none⟩ = some (.int .i64 a0_3) := (blk_cell BK172.out 3).trans rfl; have hcz68_4 : wr.cell? ⟨gb172, 4, none⟩ = some (.string a0_4) := (blk_cell BK172.out 4).trans rfl; have hfz68_0 := blk_frozen BK172.out 0; have hfz68_1 := blk_frozen BK172.out 1; have hfz68_2 := blk_frozen BK172.out 2; have hfz68_3 := blk_frozen BK172.out 3; have hfz68_4 := blk_frozen BK172.out 4; have hcz69_0 : wr.cell? ⟨gb173, 0, none⟩ = some (.int .i64 x174000_2) := (blk_cell BK173.out 0).trans rfl; have hcz69_1 : wr.cell? ⟨gb173, 1, none⟩ = some (.int .i64 x174001_2) := (blk_cell BK173.out 1).trans rfl; have hcz69_2 : wr.cell? ⟨gb173, 2, none⟩ = some (.int .i64 x174002_2) := (blk_cell BK173.out 2).trans rfl; have hcz69_3 : wr.cell? ⟨gb173, 3, none⟩ = some (.bool x174003_2) := (blk_cell BK173.out 3).trans rfl; have hcz69_4 : wr.cell? ⟨gb173, 4, none⟩ = some (.int .i64 x174004_2) := (blk_cell BK173.out 4).trans rfl; have hcz69_5 : wr.cell? ⟨gb173, 5, none⟩ = some (.slice none 0 0) := (blk_cell BK173.out 5).trans rfl; have hfz69_0 := blk_frozen BK173.out 0; have hfz69_1 := blk_frozen BK173.out 1; have hfz69_2 := blk_frozen BK173.out 2; have hfz69_3 := blk_frozen BK173.out 3; have hfz69_4 := blk_frozen BK173.out 4; have hfz69_5 := blk_frozen BK173.out 5; have hcz70_0 : wr.cell? ⟨gb176, 0, none⟩ = some (.int .i64 a0_2) := (blk_cell BK176.out 0).trans rfl; have hcz70_1 : wr.cell? ⟨gb176, 1, none⟩ = some (.int .i64 (a0_3 / 16777216)) := (blk_cell BK176.out 1).trans rfl; have hcz70_2 : wr.cell? ⟨gb176, 2, none⟩ = some (.int .i64 (Go.bits .and .i64 (a0_3 / 65536) 255)) := (blk_cell BK176.out 2).trans rfl; have hcz70_3 : wr.cell? ⟨gb176, 3, none⟩ = some (.bool ((Go.bits .and .i64 (a0_3 / 32768) 1) == 1)) := (blk_cell BK176.out 3).trans rfl; have hcz70_4 : wr.cell? ⟨gb176, 4, none⟩ = some (.int .i64 (Go.bits .and .i64 a0_3 32767)) := (blk_cell BK176.out 4).trans rfl; have hcz70_5 : wr.cell? ⟨gb176, 5, none⟩ = some (u177005) := (blk_cell BK176.out 5).trans rfl; have hfz70_0 := blk_frozen BK176.out 0; have hfz70_1 := blk_frozen BK176.out 1; have hfz70_2 := blk_frozen BK176.out 2; have hfz70_3 := blk_frozen BK176.out 3; have hfz70_4 := blk_frozen BK176.out 4; have hfz70_5 := blk_frozen BK176.out 5))
                  refine bodyPost_ret (results_ct rfl _ _ gb173 24 #[.int .i64 0, .int .i64 0, .int .i64 0, .bool false, .int .i64 0, .slice none 0 0] (0, 0) _ rfl (by (with_reducible repeat (first | refine blk_drewN ?_ _ | refine blk_drew ?_ | refine blk_alloc ?_ _)); refine blk_put (cs := #[.int .i64 0, .int .i64 0, .int .i64 0, .bool false, .int .i64 0, .slice none 0 0]) ?_ 5 _ rfl; (with_reducible repeat (first | refine blk_drewN ?_ _ | refine blk_drew ?_ | refine blk_alloc ?_ _)); refine blk_put (cs := #[.int .i64 0, .int .i64 0, .int .i64 0, .bool false, .int .i64 x174004_2, .slice none 0 0]) ?_ 4 _ rfl; (with_reducible repeat (first | refine blk_drewN ?_ _ | refine blk_drew ?_ | refine blk_alloc ?_ _)); refine blk_put (cs := #[.int .i64 0, .int .i64 0, .int .i64 0, .bool x174003_2, .int .i64 x174004_2, .slice none 0 0]) ?_ 3 _ rfl; (with_reducible repeat (first | refine blk_drewN ?_ _ | refine blk_drew ?_ | refine blk_alloc ?_ _)); refine blk_put (cs := #[.int .i64 0, .int .i64 0, .int .i64 x174002_2, .bool x174003_2, .int .i64 x174004_2, .slice none 0 0]) ?_ 2 _ rfl; (with_reducible repeat (first | refine blk_drewN ?_ _ | refine blk_drew ?_ | refine blk_alloc ?_ _)); refine blk_put (cs := #[.int .i64 0, .int .i64 x174001_2, .int .i64 x174002_2, .bool x174003_2, .int .i64 x174004_2, .slice none 0 0]) ?_ 1 _ rfl; (with_reducible repeat (first | refine blk_drewN ?_ _ | refine blk_drew ?_ | refine blk_alloc ?_ _)); refine blk_put (cs := #[.int .i64 x174000_2, .int .i64 x174001_2, .int .i64 x174002_2, .bool x174003_2, .int .i64 x174004_2, .slice none 0 0]) ?_ 0 _ rfl; (with_reducible repeat (first | refine blk_drewN ?_ _ | refine blk_drew ?_ | refine blk_alloc ?_ _)); exact BK173.out) Try.underlying24 rfl (by kernel_rfl)) rfl ?_
                  exact ⟨_, by first | rfl | (simp [errW_none, errW_some] <;> rfl) | (simp [*, errW_none, errW_some] <;> rfl), by first | exact Kd.R_nil _ _ _ _ _ | exact Kd.N_nil _ _ _ _ _ | exact Kd.V_nil _ _ _ _ _ | exact Kd.Q_nil _ _ _ _ _ | exact Kd.S_nil _ _ _ _ _, by repeat (first | (with_reducible first | exact HB.out | apply below_alloc | apply pw_below_drewN | apply below_drew1 | refine below_set ?_ GE172.out | refine below_set ?_ GE173.out | refine below_set ?_ GE176.out) | exact HB.out)⟩
              · rw [if_neg c33] at H
                have c33b0 : (t179 == 0) = false := beq_eq_false_iff_ne.mpr c33
                have c33b1 : (t179 != 0) = true := bne_iff_ne.mpr c33
                simp only [Option.some.injEq, Prod.mk.injEq] at H
                obtain ⟨rfl, rfl, rfl, rfl, rfl, rfl, rfl⟩ := H
                have hnb71 := NB172_173.out
                have hnc71 := NB173_172.out
                have hnb72 := NB172_176.out
                have hnc72 := NB176_172.out
                have hcz73_0 : wr.cell? ⟨gb172, 0, none⟩ = some (.string a0_0) := (blk_cell BK172.out 0).trans rfl
                have hcz73_1 : wr.cell? ⟨gb172, 1, none⟩ = some (.int .i64 a0_1) := (blk_cell BK172.out 1).trans rfl
                have hcz73_2 : wr.cell? ⟨gb172, 2, none⟩ = some (.int .i64 a0_2) := (blk_cell BK172.out 2).trans rfl
                have hcz73_3 : wr.cell? ⟨gb172, 3, none⟩ = some (.int .i64 a0_3) := (blk_cell BK172.out 3).trans rfl
                have hcz73_4 : wr.cell? ⟨gb172, 4, none⟩ = some (.string a0_4) := (blk_cell BK172.out 4).trans rfl
                have hfz73_0 := blk_frozen BK172.out 0
                have hfz73_1 := blk_frozen BK172.out 1
                have hfz73_2 := blk_frozen BK172.out 2
                have hfz73_3 := blk_frozen BK172.out 3
                have hfz73_4 := blk_frozen BK172.out 4
                go_wp2_with (first | ((with_reducible refine gate_dst (N := 66) rfl ?_); (try (refine gate_guard (by rfl) ?_; dsimp only)); (with_reducible refine gate_callee (f := 53) rfl ?_); refine goesL_ (some 66) rfl rfl Try.func53 (by kernel_rfl) rfl #[.string a0_4, .int .i64 x5_2, .int .i64 2] rfl (by (try simp only [List.map_toArray, List.map_cons, List.map_nil]); first | done | rfl | (simp only [List.length_drop, List.length_take]; rfl)) ?_; (with_reducible refine (wimpleref1_Num.calls k2 a0_4 x5_2 2 t177 t178 t179 _ A31.out).mono ?_); rintro e w' ⟨rfl, ⟨nd, rfl⟩⟩; refine ⟨_, rfl, ?_⟩; (try (rw [drewN_self wr]; generalize hq_ : World.drewN wr _ = wr; have n0_ : Aside0 (Kd.R k52 52 wr w.heap.size (fun _ => True) u177005 x177005_2) := ⟨by rw [← hq_]; exact (by (with_reducible repeat (first | apply Kd.R_alloc | apply Kd.R_drewN | apply Kd.R_drew)); exact HO_177005.out)⟩; have n1_ : Aside0 (wr.heap[gb172]? = some (.cells #[.string a0_0, .int .i64 a0_1, .int .i64 a0_2, .int .i64 a0_3, .string a0_4] 26 (0, 0))) := ⟨by rw [← hq_]; exact (by (with_reducible repeat (first | refine blk_drewN ?_ _ | refine blk_drew ?_ | refine blk_alloc ?_ _)); exact BK172.out)⟩; have n2_ : Aside0 (wr.heap[gb173]? = some (.cells #[.int .i64 x174000_2, .int .i64 x174001_2, .int .i64 x174002_2, .bool x174003_2, .int .i64 x174004_2, .slice none 0 0] 24 (0, 0))) := ⟨by rw [← hq_]; exact (by (with_reducible repeat (first | refine blk_drewN ?_ _ | refine blk_drew ?_ | refine blk_alloc ?_ _)); exact BK173.out)⟩; have n3_ : Aside0 (wr.heap[gb176]? = some (.cells #[.int .i64 a0_2, .int .i64 (a0_3 / 16777216), .int .i64 (Go.bits .and .i64 (a0_3 / 65536) 255), .bool ((Go.bits .and .i64 (a0_3 / 32768) 1) == 1), .int .i64 (Go.bits .and .i64 a0_3 32767), u177005] 24 (0, 0))) := ⟨by rw [← hq_]; exact (by (with_reducible repeat (first | refine blk_drewN ?_ _ | refine blk_drew ?_ | refine blk_alloc ?_ _)); exact BK176.out)⟩; have n4_ : Aside0 (Below w.heap.size w wr) := ⟨by rw [← hq_]; exact (by repeat (first | (with_reducible first | exact HB.out | apply below_alloc | apply pw_below_drewN | apply below_drew1 | refine below_set ?_ GE172.out | refine below_set ?_ GE173.out | refine below_set ?_ GE176.out) | exact HB.out))⟩; clear HO_177005 BK172 BK173 BK176 HB hq_; have HO_177005 := n0_; have BK172 := n1_; have BK173 := n2_; have BK176 := n3_; have HB := n4_; clear n0_ n1_ n2_ n3_ n4_)); have hcz74_0 : wr.cell? ⟨gb172, 0, none⟩ = some (.string a0_0) := (blk_cell BK172.out 0).trans rfl; have hcz74_1 : wr.cell? ⟨gb172, 1, none⟩ = some (.int .i64 a0_1) := (blk_cell BK172.out 1).trans rfl; have hcz74_2 : wr.cell? ⟨gb172, 2, none⟩ = some (.int .i64 a0_2) := (blk_cell BK172.out 2).trans rfl; have hcz74_3 : wr.cell? ⟨gb172, 3, none⟩ = some (.int .i64 a0_3) := (blk_cell BK172.out 3).trans rfl; have hcz74_4 : wr.cell? ⟨gb172, 4, none⟩ = some (.string a0_4) := (blk_cell BK172.out 4).trans rfl; have hfz74_0 := blk_frozen BK172.out 0; have hfz74_1 := blk_frozen BK172.out 1; have hfz74_2 := blk_frozen BK172.out 2; have hfz74_3 := blk_frozen BK172.out 3; have hfz74_4 := blk_frozen BK172.out 4; have hcz75_0 : wr.cell? ⟨gb173, 0, none⟩ = some (.int .i64 x174000_2) := (blk_cell BK173.out 0).trans rfl; have hcz75_1 : wr.cell? ⟨gb173, 1, none⟩ = some (.int .i64 x174001_2) := (blk_cell BK173.out 1).trans rfl; have hcz75_2 : wr.cell? ⟨gb173, 2, none⟩ = some (.int .i64 x174002_2) := (blk_cell BK173.out 2).trans rfl; have hcz75_3 : wr.cell? ⟨gb173, 3, none⟩ = some (.bool x174003_2) := (blk_cell BK173.out 3).trans rfl; have hcz75_4 : wr.cell? ⟨gb173, 4, none⟩ = some (.int .i64 x174004_2) := (blk_cell BK173.out 4).trans rfl; have hcz75_5 : wr.cell? ⟨gb173, 5, none⟩ = some (.slice none 0 0) := (blk_cell BK173.out 5).trans rfl; have hfz75_0 := blk_frozen BK173.out 0; have hfz75_1 := blk_frozen BK173.out 1; have hfz75_2 := blk_frozen BK173.out 2; have hfz75_3 := blk_frozen BK173.out 3; have hfz75_4 := blk_frozen BK173.out 4; have hfz75_5 := blk_frozen BK173.out 5; have hcz76_0 : wr.cell? ⟨gb176, 0, none⟩ = some (.int .i64 a0_2) := (blk_cell BK176.out 0).trans rfl; have hcz76_1 : wr.cell? ⟨gb176, 1, none⟩ = some (.int .i64 (a0_3 / 16777216)) := (blk_cell BK176.out 1).trans rfl; have hcz76_2 : wr.cell? ⟨gb176, 2, none⟩ = some (.int .i64 (Go.bits .and .i64 (a0_3 / 65536) 255)) := (blk_cell BK176.out 2).trans rfl; have hcz76_3 : wr.cell? ⟨gb176, 3, none⟩ = some (.bool ((Go.bits .and .i64 (a0_3 / 32768) 1) == 1)) := (blk_cell BK176.out 3).trans rfl; have hcz76_4 : wr.cell? ⟨gb176, 4, none⟩ = some (.int .i64 (Go.bits .and .i64 a0_3 32767)) := (blk_cell BK176.out 4).trans rfl; have hcz76_5 : wr.cell? ⟨gb176, 5, none⟩ = some (u177005) := (blk_cell BK176.out 5).trans rfl; have hfz76_0 := blk_frozen BK176.out 0; have hfz76_1 := blk_frozen BK176.out 1; have hfz76_2 := blk_frozen BK176.out 2; have hfz76_3 := blk_frozen BK176.out 3; have hfz76_4 := blk_frozen BK176.out 4; have hfz76_5 := blk_frozen BK176.out 5) | ((with_reducible refine gate_dst (N := 74) rfl ?_); (try (refine gate_guard (by rfl) ?_; dsimp only)); (with_reducible refine gate_callee (f := 53) rfl ?_); refine goesL_ (some 74) rfl rfl Try.func53 (by kernel_rfl) rfl #[.string a0_4, .int .i64 t178, .int .i64 2] rfl (by (try simp only [List.map_toArray, List.map_cons, List.map_nil]); first | done | rfl | (simp only [List.length_drop, List.length_take]; rfl)) ?_; (with_reducible refine (wimpleref1_Num.calls k2 a0_4 t178 2 t180 t181 t182 _ A32.out).mono ?_); rintro e w' ⟨rfl, ⟨nd, rfl⟩⟩; refine ⟨_, rfl, ?_⟩; (try (rw [drewN_self wr]; generalize hq_ : World.drewN wr _ = wr; have n0_ : Aside0 (Kd.R k52 52 wr w.heap.size (fun _ => True) u177005 x177005_2) := ⟨by rw [← hq_]; exact (by (with_reducible repeat (first | apply Kd.R_alloc | apply Kd.R_drewN | apply Kd.R_drew)); exact HO_177005.out)⟩; have n1_ : Aside0 (wr.heap[gb172]? = some (.cells #[.string a0_0, .int .i64 a0_1, .int .i64 a0_2, .int .i64 a0_3, .string a0_4] 26 (0, 0))) := ⟨by rw [← hq_]; exact (by (with_reducible repeat (first | refine blk_drewN ?_ _ | refine blk_drew ?_ | refine blk_alloc ?_ _)); exact BK172.out)⟩; have n2_ : Aside0 (wr.heap[gb173]? = some (.cells #[.int .i64 x174000_2, .int .i64 x174001_2, .int .i64 x174002_2, .bool x174003_2, .int .i64 x174004_2, .slice none 0 0] 24 (0, 0))) := ⟨by rw [← hq_]; exact (by (with_reducible repeat (first | refine blk_drewN ?_ _ | refine blk_drew ?_ | refine blk_alloc ?_ _)); exact BK173.out)⟩; have n3_ : Aside0 (wr.heap[gb176]? = some (.cells #[.int .i64 a0_2, .int .i64 (a0_3 / 16777216), .int .i64 (Go.bits .and .i64 (a0_3 / 65536) 255), .bool ((Go.bits .and .i64 (a0_3 / 32768) 1) == 1), .int .i64 (Go.bits .and .i64 a0_3 32767), u177005] 24 (0, 0))) := ⟨by rw [← hq_]; exact (by (with_reducible repeat (first | refine blk_drewN ?_ _ | refine blk_drew ?_ | refine blk_alloc ?_ _)); exact BK176.out)⟩; have n4_ : Aside0 (Below w.heap.size w wr) := ⟨by rw [← hq_]; exact (by repeat (first | (with_reducible first | exact HB.out | apply below_alloc | apply pw_below_drewN | apply below_drew1 | refine below_set ?_ GE172.out | refine below_set ?_ GE173.out | refine below_set ?_ GE176.out) | exact HB.out))⟩; clear HO_177005 BK172 BK173 BK176 HB hq_; have HO_177005 := n0_; have BK172 := n1_; have BK173 := n2_; have BK176 := n3_; have HB := n4_; clear n0_ n1_ n2_ n3_ n4_)); have hcz77_0 : wr.cell? ⟨gb172, 0, none⟩ = some (.string a0_0) := (blk_cell BK172.out 0).trans rfl; have hcz77_1 : wr.cell? ⟨gb172, 1, none⟩ = some (.int .i64 a0_1) := (blk_cell BK172.out 1).trans rfl; have hcz77_2 : wr.cell? ⟨gb172, 2, none⟩ = some (.int .i64 a0_2) := (blk_cell BK172.out 2).trans rfl; have hcz77_3 : wr.cell? ⟨gb172, 3, none⟩ = some (.int .i64 a0_3) := (blk_cell BK172.out 3).trans rfl; have hcz77_4 : wr.cell? ⟨gb172, 4, none⟩ = some (.string a0_4) := (blk_cell BK172.out 4).trans rfl; have hfz77_0 := blk_frozen BK172.out 0; have hfz77_1 := blk_frozen BK172.out 1; have hfz77_2 := blk_frozen BK172.out 2; have hfz77_3 := blk_frozen BK172.out 3; have hfz77_4 := blk_frozen BK172.out 4; have hcz78_0 : wr.cell? ⟨gb173, 0, none⟩ = some (.int .i64 x174000_2) := (blk_cell BK173.out 0).trans rfl; have hcz78_1 : wr.cell? ⟨gb173, 1, none⟩ = some (.int .i64 x174001_2) := (blk_cell BK173.out 1).trans rfl; have hcz78_2 : wr.cell? ⟨gb173, 2, none⟩ = some (.int .i64 x174002_2) := (blk_cell BK173.out 2).trans rfl; have hcz78_3 : wr.cell? ⟨gb173, 3, none⟩ = some (.bool x174003_2) := (blk_cell BK173.out 3).trans rfl; have hcz78_4 : wr.cell? ⟨gb173, 4, none⟩ = some (.int .i64 x174004_2) := (blk_cell BK173.out 4).trans rfl; have hcz78_5 : wr.cell? ⟨gb173, 5, none⟩ = some (.slice none 0 0) := (blk_cell BK173.out 5).trans rfl; have hfz78_0 := blk_frozen BK173.out 0; have hfz78_1 := blk_frozen BK173.out 1; have hfz78_2 := blk_frozen BK173.out 2; have hfz78_3 := blk_frozen BK173.out 3; have hfz78_4 := blk_frozen BK173.out 4; have hfz78_5 := blk_frozen BK173.out 5; have hcz79_0 : wr.cell? ⟨gb176, 0, none⟩ = some (.int .i64 a0_2) := (blk_cell BK176.out 0).trans rfl; have hcz79_1 : wr.cell? ⟨gb176, 1, none⟩ = some (.int .i64 (a0_3 / 16777216)) := (blk_cell BK176.out 1).trans rfl; have hcz79_2 : wr.cell? ⟨gb176, 2, none⟩ = some (.int .i64 (Go.bits .and .i64 (a0_3 / 65536) 255)) := (blk_cell BK176.out 2).trans rfl; have hcz79_3 : wr.cell? ⟨gb176, 3, none⟩ = some (.bool ((Go.bits .and .i64 (a0_3 / 32768) 1) == 1)) := (blk_cell BK176.out 3).trans rfl; have hcz79_4 : wr.cell? ⟨gb176, 4, none⟩ = some (.int .i64 (Go.bits .and .i64 a0_3 32767)) := (blk_cell BK176.out 4).trans rfl; have hcz79_5 : wr.cell? ⟨gb176, 5, none⟩ = some (u177005) := (blk_cell BK176.out 5).trans rfl; have hfz79_0 := blk_frozen BK176.out 0; have hfz79_1 := blk_frozen BK176.out 1; have hfz79_2 := blk_frozen BK176.out 2; have hfz79_3 := blk_frozen BK176.out 3; have hfz79_4 := blk_frozen BK176.out 4; have hfz79_5 := blk_frozen BK176.out 5))
                refine bodyPost_ret (results_ct rfl _ _ gb173 24 #[.int .i64 0, .int .i64 0, .int .i64 0, .bool false, .int .i64 0, .slice none 0 0] (0, 0) _ rfl (by (with_reducible repeat (first | refine blk_drewN ?_ _ | refine blk_drew ?_ | refine blk_alloc ?_ _)); refine blk_put (cs := #[.int .i64 0, .int .i64 0, .int .i64 0, .bool false, .int .i64 0, .slice none 0 0]) ?_ 5 _ rfl; (with_reducible repeat (first | refine blk_drewN ?_ _ | refine blk_drew ?_ | refine blk_alloc ?_ _)); refine blk_put (cs := #[.int .i64 0, .int .i64 0, .int .i64 0, .bool false, .int .i64 x174004_2, .slice none 0 0]) ?_ 4 _ rfl; (with_reducible repeat (first | refine blk_drewN ?_ _ | refine blk_drew ?_ | refine blk_alloc ?_ _)); refine blk_put (cs := #[.int .i64 0, .int .i64 0, .int .i64 0, .bool x174003_2, .int .i64 x174004_2, .slice none 0 0]) ?_ 3 _ rfl; (with_reducible repeat (first | refine blk_drewN ?_ _ | refine blk_drew ?_ | refine blk_alloc ?_ _)); refine blk_put (cs := #[.int .i64 0, .int .i64 0, .int .i64 x174002_2, .bool x174003_2, .int .i64 x174004_2, .slice none 0 0]) ?_ 2 _ rfl; (with_reducible repeat (first | refine blk_drewN ?_ _ | refine blk_drew ?_ | refine blk_alloc ?_ _)); refine blk_put (cs := #[.int .i64 0, .int .i64 x174001_2, .int .i64 x174002_2, .bool x174003_2, .int .i64 x174004_2, .slice none 0 0]) ?_ 1 _ rfl; (with_reducible repeat (first | refine blk_drewN ?_ _ | refine blk_drew ?_ | refine blk_alloc ?_ _)); refine blk_put (cs := #[.int .i64 x174000_2, .int .i64 x174001_2, .int .i64 x174002_2, .bool x174003_2, .int .i64 x174004_2, .slice none 0 0]) ?_ 0 _ rfl; (with_reducible repeat (first | refine blk_drewN ?_ _ | refine blk_drew ?_ | refine blk_alloc ?_ _)); exact BK173.out) Try.underlying24 rfl (by kernel_rfl)) rfl ?_
                exact ⟨_, by first | rfl | (simp [errW_none, errW_some] <;> rfl) | (simp [*, errW_none, errW_some] <;> rfl), by first | exact Kd.R_nil _ _ _ _ _ | exact Kd.N_nil _ _ _ _ _ | exact Kd.V_nil _ _ _ _ _ | exact Kd.Q_nil _ _ _ _ _ | exact Kd.S_nil _ _ _ _ _, by repeat (first | (with_reducible first | exact HB.out | apply below_alloc | apply pw_below_drewN | apply below_drew1 | refine below_set ?_ GE172.out | refine below_set ?_ GE173.out | refine below_set ?_ GE176.out) | exact HB.out)⟩
            · rw [if_neg c30] at H
              have c30b0 : decide (x5_2 < (a0_4.size : Int)) = false := decide_eq_false c30
              clear c30
              simp only [Option.some.injEq, Prod.mk.injEq] at H
              obtain ⟨rfl, rfl, rfl, rfl, rfl, rfl, rfl⟩ := H
              have hnb80 := NB172_173.out
              have hnc80 := NB173_172.out
              have hnb81 := NB172_176.out
              have hnc81 := NB176_172.out
              have hcz82_0 : wr.cell? ⟨gb172, 0, none⟩ = some (.string a0_0) := (blk_cell BK172.out 0).trans rfl
              have hcz82_1 : wr.cell? ⟨gb172, 1, none⟩ = some (.int .i64 a0_1) := (blk_cell BK172.out 1).trans rfl
              have hcz82_2 : wr.cell? ⟨gb172, 2, none⟩ = some (.int .i64 a0_2) := (blk_cell BK172.out 2).trans rfl
              have hcz82_3 : wr.cell? ⟨gb172, 3, none⟩ = some (.int .i64 a0_3) := (blk_cell BK172.out 3).trans rfl
              have hcz82_4 : wr.cell? ⟨gb172, 4, none⟩ = some (.string a0_4) := (blk_cell BK172.out 4).trans rfl
              have hfz82_0 := blk_frozen BK172.out 0
              have hfz82_1 := blk_frozen BK172.out 1
              have hfz82_2 := blk_frozen BK172.out 2
              have hfz82_3 := blk_frozen BK172.out 3
              have hfz82_4 := blk_frozen BK172.out 4
              have hnb83 := NB176_173.out
              have hnc83 := NB173_176.out
              have hcz84_0 : wr.cell? ⟨gb176, 0, none⟩ = some (.int .i64 a0_2) := (blk_cell BK176.out 0).trans rfl
              have hcz84_1 : wr.cell? ⟨gb176, 1, none⟩ = some (.int .i64 (a0_3 / 16777216)) := (blk_cell BK176.out 1).trans rfl
              have hcz84_2 : wr.cell? ⟨gb176, 2, none⟩ = some (.int .i64 (Go.bits .and .i64 (a0_3 / 65536) 255)) := (blk_cell BK176.out 2).trans rfl
              have hcz84_3 : wr.cell? ⟨gb176, 3, none⟩ = some (.bool ((Go.bits .and .i64 (a0_3 / 32768) 1) == 1)) := (blk_cell BK176.out 3).trans rfl
              have hcz84_4 : wr.cell? ⟨gb176, 4, none⟩ = some (.int .i64 (Go.bits .and .i64 a0_3 32767)) := (blk_cell BK176.out 4).trans rfl
              have hcz84_5 : wr.cell? ⟨gb176, 5, none⟩ = some (u177005) := (blk_cell BK176.out 5).trans rfl
              have hfz84_0 := blk_frozen BK176.out 0
              have hfz84_1 := blk_frozen BK176.out 1
              have hfz84_2 := blk_frozen BK176.out 2
              have hfz84_3 := blk_frozen BK176.out 3
              have hfz84_4 := blk_frozen BK176.out 4
              have hfz84_5 := blk_frozen BK176.out 5
              have hcz85_0 : wr.cell? ⟨gb173, 0, none⟩ = some (.int .i64 x174000_2) := (blk_cell BK173.out 0).trans rfl
              have hcz85_1 : wr.cell? ⟨gb173, 1, none⟩ = some (.int .i64 x174001_2) := (blk_cell BK173.out 1).trans rfl
              have hcz85_2 : wr.cell? ⟨gb173, 2, none⟩ = some (.int .i64 x174002_2) := (blk_cell BK173.out 2).trans rfl
              have hcz85_3 : wr.cell? ⟨gb173, 3, none⟩ = some (.bool x174003_2) := (blk_cell BK173.out 3).trans rfl
              have hcz85_4 : wr.cell? ⟨gb173, 4, none⟩ = some (.int .i64 x174004_2) := (blk_cell BK173.out 4).trans rfl
              have hcz85_5 : wr.cell? ⟨gb173, 5, none⟩ = some (.slice none 0 0) := (blk_cell BK173.out 5).trans rfl
              have hfz85_0 := blk_frozen BK173.out 0
              have hfz85_1 := blk_frozen BK173.out 1
              have hfz85_2 := blk_frozen BK173.out 2
              have hfz85_3 := blk_frozen BK173.out 3
              have hfz85_4 := blk_frozen BK173.out 4
              have hfz85_5 := blk_frozen BK173.out 5
              obtain ⟨Ao86, co86, eo86⟩ := Kd.R_slice HO_177005.out
              subst eo86
              go_wp2
              refine bodyPost_ret (results_ct rfl _ _ gb173 24 #[.int .i64 a0_2, .int .i64 (a0_3 / 16777216), .int .i64 (Go.bits .and .i64 (a0_3 / 65536) 255), .bool ((Go.bits .and .i64 (a0_3 / 32768) 1) == 1), .int .i64 (Go.bits .and .i64 a0_3 32767), .slice Ao86 x177005_2.length co86] (0, 0) _ rfl (by (with_reducible repeat (first | refine blk_drewN ?_ _ | refine blk_drew ?_ | refine blk_alloc ?_ _)); refine blk_put (cs := #[.int .i64 a0_2, .int .i64 (a0_3 / 16777216), .int .i64 (Go.bits .and .i64 (a0_3 / 65536) 255), .bool ((Go.bits .and .i64 (a0_3 / 32768) 1) == 1), .int .i64 (Go.bits .and .i64 a0_3 32767), .slice none 0 0]) ?_ 5 _ rfl; (with_reducible repeat (first | refine blk_drewN ?_ _ | refine blk_drew ?_ | refine blk_alloc ?_ _)); refine blk_put (cs := #[.int .i64 a0_2, .int .i64 (a0_3 / 16777216), .int .i64 (Go.bits .and .i64 (a0_3 / 65536) 255), .bool ((Go.bits .and .i64 (a0_3 / 32768) 1) == 1), .int .i64 x174004_2, .slice none 0 0]) ?_ 4 _ rfl; (with_reducible repeat (first | refine blk_drewN ?_ _ | refine blk_drew ?_ | refine blk_alloc ?_ _)); refine blk_put (cs := #[.int .i64 a0_2, .int .i64 (a0_3 / 16777216), .int .i64 (Go.bits .and .i64 (a0_3 / 65536) 255), .bool x174003_2, .int .i64 x174004_2, .slice none 0 0]) ?_ 3 _ rfl; (with_reducible repeat (first | refine blk_drewN ?_ _ | refine blk_drew ?_ | refine blk_alloc ?_ _)); refine blk_put (cs := #[.int .i64 a0_2, .int .i64 (a0_3 / 16777216), .int .i64 x174002_2, .bool x174003_2, .int .i64 x174004_2, .slice none 0 0]) ?_ 2 _ rfl; (with_reducible repeat (first | refine blk_drewN ?_ _ | refine blk_drew ?_ | refine blk_alloc ?_ _)); refine blk_put (cs := #[.int .i64 a0_2, .int .i64 x174001_2, .int .i64 x174002_2, .bool x174003_2, .int .i64 x174004_2, .slice none 0 0]) ?_ 1 _ rfl; (with_reducible repeat (first | refine blk_drewN ?_ _ | refine blk_drew ?_ | refine blk_alloc ?_ _)); refine blk_put (cs := #[.int .i64 x174000_2, .int .i64 x174001_2, .int .i64 x174002_2, .bool x174003_2, .int .i64 x174004_2, .slice none 0 0]) ?_ 0 _ rfl; (with_reducible repeat (first | refine blk_drewN ?_ _ | refine blk_drew ?_ | refine blk_alloc ?_ _)); exact BK173.out) Try.underlying24 rfl (by kernel_rfl)) rfl ?_
              exact ⟨_, by first | rfl | (simp [errW_none, errW_some] <;> rfl) | (simp [*, errW_none, errW_some] <;> rfl), by (with_reducible repeat (first | apply Kd.R_alloc | apply Kd.R_drewN | apply Kd.R_drew)); exact Kd.R_mono (Kd.R_far (p := ⟨gb173, 5, none⟩) (Kd.R_far (p := ⟨gb173, 4, none⟩) (Kd.R_far (p := ⟨gb173, 3, none⟩) (Kd.R_far (p := ⟨gb173, 2, none⟩) (Kd.R_far (p := ⟨gb173, 1, none⟩) (Kd.R_far (p := ⟨gb173, 0, none⟩) (Kd.R_types HO_177005.out BK173.out (by decide)) (fun _ hk => hk.2) (.int .i64 a0_2)) (fun _ hk => hk.2) (.int .i64 (a0_3 / 16777216))) (fun _ hk => hk.2) (.int .i64 (Go.bits .and .i64 (a0_3 / 65536) 255))) (fun _ hk => hk.2) (.bool ((Go.bits .and .i64 (a0_3 / 32768) 1) == 1))) (fun _ hk => hk.2) (.int .i64 (Go.bits .and .i64 a0_3 32767))) (fun _ hk => hk.2) (.slice Ao86 x177005_2.length co86)) (fun _ hk => trivial), by repeat (first | (with_reducible first | exact HB.out | apply below_alloc | apply pw_below_drewN | apply below_drew1 | refine below_set ?_ GE172.out | refine below_set ?_ GE173.out | refine below_set ?_ GE176.out) | exact HB.out)⟩

end Go.Proofs.Ytndcjleadggibaa.POz
