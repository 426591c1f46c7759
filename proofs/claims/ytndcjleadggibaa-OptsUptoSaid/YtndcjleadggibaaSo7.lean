/- The row of the law Opts, where what it reads is of bulk at most 1048576, out of its pure statement and the printed walk. -/
import Derived.Laws.BitsLemmas
import Derived.Laws.BytesArg
import Derived.RowKit
import Derived.IntWalk
import Derived.PlainAid
import Derived.Below
import Derived.Lib.QuietBelow
import Derived.Test.YtndcjleadggibaaRows
import Derived.WalkKit
import Derived.ProofKit
import Derived.OpenShut
import Derived.ShutString
import Derived.ChangeOld
import Derived.JoinedCond
import Derived.Carry
import Derived.Test.YtndcjleadggibaaSo1
import Derived.Test.YtndcjleadggibaaSo2
import Derived.Test.YtndcjleadggibaaSo3
import Derived.Test.YtndcjleadggibaaSo4
import Derived.Test.YtndcjleadggibaaSo5
import Derived.Test.YtndcjleadggibaaSo6
namespace Go.Proofs.Ytndcjleadggibaa.POz
open Go.RowKit Go.Proofs.YtndcjleadggibaaW.PrintWords Go.Proofs.YtndcjleadggibaaW.PrintLast Go.Proofs.YtndcjleadggibaaW.PrintMore
attribute [local go_sem] max2_int min2_int max_two min_two max_three min_three max_four min_four   -- for this text's walks alone
set_option linter.unusedVariables false
set_option linter.unusedSimpArgs false

/-! ### wimpleref4_PutOpt: function 15 -/
mutual
def wimpleref4_PutOpt.j0 : Nat → Bool → Int → Int → Int → Bool → Int → List (S52) → Option (ByteArray × Int × Int × Int × ByteArray × Int)
  | 0, _, _, _, _, _, _, _ => none
  | k + 1, x40, x144000, x144001, x144002, x144003, x144004, x144005 => if x40 = true then (some ((⟨#[]⟩ : ByteArray), 0, 0, 0, (⟨#[]⟩ : ByteArray), 800)) else (wimpleref4_PutOpt.l0 k (⟨#[]⟩ : ByteArray) 0 x144000 x144001 x144002 x144003 x144004 x144005)
def wimpleref4_PutOpt.l0 : Nat → ByteArray → Int → Int → Int → Int → Bool → Int → List (S52) → Option (ByteArray × Int × Int × Int × ByteArray × Int)
  | 0, _, _, _, _, _, _, _, _ => none
  | k + 1, x4, x5, x144000, x144001, x144002, x144003, x144004, x144005 => if x5 < (x144005.length : Int) then (if 0 ≤ x5 then ((wimpleref4_short.f ((rd_T52 x144005 x5).f0)).bind fun t149 => (if t149 = true then (if (((rd_T52 x144005 x5).f1).size : Int) > 65535 then (wimpleref4_PutOpt.j2 k x4 x5 true x144000 x144001 x144002 x144003 x144004 x144005 ((rd_T52 x144005 x5).f0) ((rd_T52 x144005 x5).f1)) else (wimpleref4_PutOpt.j2 k x4 x5 (decide ((x4.size : Int) > 65535)) x144000 x144001 x144002 x144003 x144004 x144005 ((rd_T52 x144005 x5).f0) ((rd_T52 x144005 x5).f1))) else (wimpleref4_PutOpt.j2 k x4 x5 true x144000 x144001 x144002 x144003 x144004 x144005 ((rd_T52 x144005 x5).f0) ((rd_T52 x144005 x5).f1)))) else (none)) else (if (x4.size : Int) > 65535 then (some ((⟨#[]⟩ : ByteArray), 0, 0, 0, (⟨#[]⟩ : ByteArray), 800)) else ((wimpleref4_bit.f x144003 15).bind fun t146 => (some ((⟨#[0]⟩ : ByteArray), 41, x144000, Go.bits .or .i64 (Go.bits .or .i64 (Go.bits .or .i64 (wrap64 (x144001 * 16777216)) (wrap64 (x144002 * 65536))) t146) x144004, x4, 0))))
def wimpleref4_PutOpt.j2 : Nat → ByteArray → Int → Bool → Int → Int → Int → Bool → Int → List (S52) → Int → ByteArray → Option (ByteArray × Int × Int × Int × ByteArray × Int)
  | 0, _, _, _, _, _, _, _, _, _, _, _ => none
  | k + 1, x4, x5, x68, x144000, x144001, x144002, x144003, x144004, x144005, x149000, x149001 => if x68 = true then (some ((⟨#[]⟩ : ByteArray), 0, 0, 0, (⟨#[]⟩ : ByteArray), 800)) else ((wimpleref1_Be.f k x149000 2).bind fun t150 => (if x4.size + t150.size ≤ 9223372036854775807 then ((wimpleref1_Be.f k (x149001.size : Int) 2).bind fun t151 => (if (x4 ++ t150).size + t151.size ≤ 9223372036854775807 then (if ((x4 ++ t150) ++ t151).size + x149001.size ≤ 9223372036854775807 then (wimpleref4_PutOpt.l0 k (((x4 ++ t150) ++ t151) ++ x149001) (wrap64 (x5 + 1)) x144000 x144001 x144002 x144003 x144004 x144005) else (none)) else (none))) else (none)))
end
def wimpleref4_PutOpt.f (k : Nat) (a0_0 : Int) (a0_1 : Int) (a0_2 : Int) (a0_3 : Bool) (a0_4 : Int) (l0_5 : List (S52)) : Option (ByteArray × Int × Int × Int × ByteArray × Int) := (wimpleref4_short.f a0_0).bind fun t145 => (if t145 = true then (if a0_1 < 0 then (wimpleref4_PutOpt.j0 k true a0_0 a0_1 a0_2 a0_3 a0_4 l0_5) else (if a0_1 > 255 then (wimpleref4_PutOpt.j0 k true a0_0 a0_1 a0_2 a0_3 a0_4 l0_5) else (if a0_2 < 0 then (wimpleref4_PutOpt.j0 k true a0_0 a0_1 a0_2 a0_3 a0_4 l0_5) else (if a0_2 > 255 then (wimpleref4_PutOpt.j0 k true a0_0 a0_1 a0_2 a0_3 a0_4 l0_5) else (if a0_4 < 0 then (wimpleref4_PutOpt.j0 k true a0_0 a0_1 a0_2 a0_3 a0_4 l0_5) else (wimpleref4_PutOpt.j0 k (decide (a0_4 > 32767)) a0_0 a0_1 a0_2 a0_3 a0_4 l0_5)))))) else (wimpleref4_PutOpt.j0 k true a0_0 a0_1 a0_2 a0_3 a0_4 l0_5))
def wimpleref4_PutOpt.T10 : Bool × List (List Nat × List Nat) := (true, [([], []), ([], []), ([1], [1]), ([2], [2]), ([0, 3], [0, 3]), ([], []), ([5], [5]), ([6], [6]), ([7, 3], [7]), ([4, 8], [4, 8]), ([], []), ([10], [10]), ([9, 11], [9, 11]), ([12, 8, 0, 1, 2, 3, 4, 5, 6, 7, 8, 9, 10, 11, 12], [0, 12])])
def wimpleref4_PutOpt.B10 : List Nat := [0, 0, 2, 6, 15, 0, 32, 96, 238, 511, 0, 1024, 4095, 8191]
theorem wimpleref4_PutOpt.tab10 : rtab .any (opsOf Try.f15 10) = wimpleref4_PutOpt.T10 := by kernel_rfl
theorem wimpleref4_PutOpt.bits10 : waitsOk wimpleref4_PutOpt.T10.2 wimpleref4_PutOpt.B10 = true := by kernel_rfl
def wimpleref4_PutOpt.T13 : Bool × List (List Nat × List Nat) := (true, [([], []), ([0], [0]), ([], []), ([2], [2]), ([3], [3]), ([], []), ([5], [5]), ([6], [6]), ([4, 7], [4, 7]), ([], []), ([9], [9]), ([10], [10]), ([8, 11], [8, 11]), ([], []), ([13], [13]), ([12, 14], [12, 14]), ([], []), ([1, 15, 16], [1, 15, 16]), ([17, 11, 0, 1, 2, 3, 4, 5, 6, 7, 8, 9, 10, 11, 12, 13, 14, 15, 16, 17], [17]), ([18, 0, 1, 2, 3, 4, 5, 6, 7, 8, 9, 10, 11, 12, 13, 14, 15, 16, 17, 18], [])])
def wimpleref4_PutOpt.B13 : List Nat := [0, 1, 0, 4, 12, 0, 32, 96, 252, 0, 512, 1536, 4092, 0, 8192, 32764, 0, 131071, 262143, 524287]
theorem wimpleref4_PutOpt.tab13 : rtab .any (opsOf Try.f15 13) = wimpleref4_PutOpt.T13 := by kernel_rfl
theorem wimpleref4_PutOpt.bits13 : waitsOk wimpleref4_PutOpt.T13.2 wimpleref4_PutOpt.B13 = true := by kernel_rfl
set_option maxHeartbeats 8000000 in
set_option maxRecDepth 100000 in
theorem wimpleref4_PutOpt.calls (k : Nat) (a0_0 : Int) (a0_1 : Int) (a0_2 : Int) (a0_3 : Bool) (a0_4 : Int) (A0_5 : Option Addr) (c0_5 : Nat) (l0_5 : List (S52)) (r1 : ByteArray) (r2 : Int) (r3 : Int) (r4 : Int) (r5 : ByteArray) (r6 : Int) (w : World) (hr0_5 : Kd.C k52 w A0_5 l0_5.length l0_5) (hc0_5 : l0_5.length ≤ c0_5) (h : wimpleref4_PutOpt.f k a0_0 a0_1 a0_2 a0_3 a0_4 l0_5 = some (r1, r2, r3, r4, r5, r6)) :
    Calls Try.prog 15 #[.agg #[.int .i64 a0_0, .int .i64 a0_1, .int .i64 a0_2, .bool a0_3, .int .i64 a0_4, .slice A0_5 l0_5.length c0_5]] w fun e w' => e = .returned (.tuple #[.agg #[.string r1, .int .i64 r2, .int .i64 r3, .int .i64 r4, .string r5], .int .i64 r6]) ∧ Below w.heap.size w w' := by
  have hu24 := Try.underlying24
  have hu26 := Try.underlying26
  have hu52 := Try.underlying52
  have HR0_5 := Aside0.mk hr0_5
  have HC0_5 := Aside0.mk hc0_5
  clear hr0_5 hc0_5
  have HB := Aside0.mk (Below.refl w.heap.size w)
  have H : ((wimpleref4_short.f a0_0).bind fun t145 => (if t145 = true then (if a0_1 < 0 then (wimpleref4_PutOpt.j0 k true a0_0 a0_1 a0_2 a0_3 a0_4 l0_5) else (if a0_1 > 255 then (wimpleref4_PutOpt.j0 k true a0_0 a0_1 a0_2 a0_3 a0_4 l0_5) else (if a0_2 < 0 then (wimpleref4_PutOpt.j0 k true a0_0 a0_1 a0_2 a0_3 a0_4 l0_5) else (if a0_2 > 255 then (wimpleref4_PutOpt.j0 k true a0_0 a0_1 a0_2 a0_3 a0_4 l0_5) else (if a0_4 < 0 then (wimpleref4_PutOpt.j0 k true a0_0 a0_1 a0_2 a0_3 a0_4 l0_5) else (wimpleref4_PutOpt.j0 k (decide (a0_4 > 32767)) a0_0 a0_1 a0_2 a0_3 a0_4 l0_5)))))) else (wimpleref4_PutOpt.j0 k true a0_0 a0_1 a0_2 a0_3 a0_4 l0_5))) = some (r1, r2, r3, r4, r5, r6) := h
  clear h
  have HC2 := Aside0.mk H
  clear H
  go_enter Try.func15, Try.ntmps15
  go_upto_region 1 with (first | ((with_reducible refine gate_dst (N := 1) rfl ?_); (try (refine gate_guard (by rfl) ?_; dsimp only)); refine box_event ?hg (N := 1) ?hd (cs := #[.int .i64 a0_0, .int .i64 a0_1, .int .i64 a0_2, .bool a0_3, .int .i64 a0_4, .slice A0_5 l0_5.length c0_5]) (t := 24) ?hr ?_; (case hd => rfl); (case hg => rfl); (case hr => first | (go_simp; done) | (go_simp; rfl)); intro gb143 hg w3 hbox hb; have n0_ := Aside0.mk (below_step (by repeat (first | (with_reducible first | exact HB.out | apply below_alloc | apply pw_below_drewN | apply below_drew1) | exact HB.out)) hb); have n1_ := Aside0.mk (hbox); have n2_ := Aside0.mk ((by rw [hg]; exact (below_size (by repeat (first | (with_reducible first | exact HB.out | apply below_alloc | apply pw_below_drewN | apply below_drew1) | exact HB.out))) : w.heap.size ≤ gb143)); have n3_ := Aside0.mk ((by rw [hg]; exact (below_size (by repeat (first | (with_reducible first | exact HB.out | apply below_alloc | apply pw_below_drewN | apply below_drew1) | exact HB.out))) : w.heap.size ≤ gb143)); clear HB; have HB := n0_; have BK143 := n1_; have GW143 := n2_; have GE143 := n3_; clear n0_ n1_ n2_ n3_; clear hb hbox hg) | ((with_reducible refine gate_dst (N := 2) rfl ?_); (try (refine gate_guard (by rfl) ?_; dsimp only)); refine box_event ?hg (N := 2) ?hd (cs := #[.string (⟨#[]⟩ : ByteArray), .int .i64 0, .int .i64 0, .int .i64 0, .string (⟨#[]⟩ : ByteArray)]) (t := 26) ?hr ?_; (case hd => rfl); (case hg => rfl); (case hr => first | (go_simp; done) | (go_simp; rfl)); intro gb144 hg w4 hbox hb; have n0_ := Aside0.mk (blk_below (g := gb143) (o := .cells #[.int .i64 a0_0, .int .i64 a0_1, .int .i64 a0_2, .bool a0_3, .int .i64 a0_4, .slice A0_5 l0_5.length c0_5] 24 (0, 0)) (by (with_reducible repeat (first | refine blk_drewN ?_ _ | refine blk_drew ?_ | refine blk_alloc ?_ _)); exact BK143.out) hb); have n1_ := Aside0.mk (below_step (by repeat (first | (with_reducible first | exact HB.out | apply below_alloc | apply pw_below_drewN | apply below_drew1 | refine below_set ?_ GE143.out) | exact HB.out)) hb); have n2_ := Aside0.mk (hbox); have n3_ := Aside0.mk ((by rw [hg]; exact (below_size (by repeat (first | (with_reducible first | exact HB.out | apply below_alloc | apply pw_below_drewN | apply below_drew1 | refine below_set ?_ GE143.out) | exact HB.out))) : w.heap.size ≤ gb144)); have n4_ := Aside0.mk ((by rw [hg]; exact (below_size (by repeat (first | (with_reducible first | exact HB.out | apply below_alloc | apply pw_below_drewN | apply below_drew1 | refine below_set ?_ GE143.out) | exact HB.out))) : w.heap.size ≤ gb144)); have n5_ := Aside0.mk ((by rw [hg]; exact Nat.ne_of_lt (blk_lt (g := gb143) (o := .cells #[.int .i64 a0_0, .int .i64 a0_1, .int .i64 a0_2, .bool a0_3, .int .i64 a0_4, .slice A0_5 l0_5.length c0_5] 24 (0, 0)) (by (with_reducible repeat (first | refine blk_drewN ?_ _ | refine blk_drew ?_ | refine blk_alloc ?_ _)); exact BK143.out)) : gb143 ≠ gb144)); have n6_ := Aside0.mk ((by rw [hg]; exact Nat.ne_of_gt (blk_lt (g := gb143) (o := .cells #[.int .i64 a0_0, .int .i64 a0_1, .int .i64 a0_2, .bool a0_3, .int .i64 a0_4, .slice A0_5 l0_5.length c0_5] 24 (0, 0)) (by (with_reducible repeat (first | refine blk_drewN ?_ _ | refine blk_drew ?_ | refine blk_alloc ?_ _)); exact BK143.out)) : gb144 ≠ gb143)); clear BK143; clear HB; have BK143 := n0_; have HB := n1_; have BK144 := n2_; have GW144 := n3_; have GE144 := n4_; have NB143_144 := n5_; have NB144_143 := n6_; clear n0_ n1_ n2_ n3_ n4_ n5_ n6_; clear hb hbox hg))
  (try simp only [Act.put, List.setIfInBounds_toArray, List.set_cons_zero, List.set_cons_succ])
  go_cut [40] (fun v40 wc => ∃ (kq : Nat) (x40_1 : Bool), v40 = .bool x40_1 ∧ Aside0 (wimpleref4_PutOpt.j0 kq x40_1 a0_0 a0_1 a0_2 a0_3 a0_4 l0_5 = some (r1, r2, r3, r4, r5, r6)) ∧ Aside0 (kq ≤ k) ∧ Aside0 (wc.heap[gb143]? = some (.cells #[.int .i64 a0_0, .int .i64 a0_1, .int .i64 a0_2, .bool a0_3, .int .i64 a0_4, (.slice A0_5 l0_5.length c0_5)] 24 (0, 0))) ∧ Aside0 (wc.heap[gb144]? = some (.cells #[.string (⟨#[]⟩ : ByteArray), .int .i64 0, .int .i64 0, .int .i64 0, .string (⟨#[]⟩ : ByteArray)] 26 (0, 0))) ∧ Aside0 (Below w.heap.size w wc))
  case first =>
    have H := HC2.out
    clear HC2
    replace H := Option.bind_eq_some_iff.mp H
    obtain ⟨t145, A50, H⟩ := H
    replace H : (if t145 = true then (if a0_1 < 0 then (wimpleref4_PutOpt.j0 k true a0_0 a0_1 a0_2 a0_3 a0_4 l0_5) else (if a0_1 > 255 then (wimpleref4_PutOpt.j0 k true a0_0 a0_1 a0_2 a0_3 a0_4 l0_5) else (if a0_2 < 0 then (wimpleref4_PutOpt.j0 k true a0_0 a0_1 a0_2 a0_3 a0_4 l0_5) else (if a0_2 > 255 then (wimpleref4_PutOpt.j0 k true a0_0 a0_1 a0_2 a0_3 a0_4 l0_5) else (if a0_4 < 0 then (wimpleref4_PutOpt.j0 k true a0_0 a0_1 a0_2 a0_3 a0_4 l0_5) else (wimpleref4_PutOpt.j0 k (decide (a0_4 > 32767)) a0_0 a0_1 a0_2 a0_3 a0_4 l0_5)))))) else (wimpleref4_PutOpt.j0 k true a0_0 a0_1 a0_2 a0_3 a0_4 l0_5)) = some (r1, r2, r3, r4, r5, r6) := H
    have A5 := Aside0.mk A50
    clear A50
    by_cases c6 : t145 = true
    · subst c6
      have H1 : (if a0_1 < 0 then (wimpleref4_PutOpt.j0 k true a0_0 a0_1 a0_2 a0_3 a0_4 l0_5) else (if a0_1 > 255 then (wimpleref4_PutOpt.j0 k true a0_0 a0_1 a0_2 a0_3 a0_4 l0_5) else (if a0_2 < 0 then (wimpleref4_PutOpt.j0 k true a0_0 a0_1 a0_2 a0_3 a0_4 l0_5) else (if a0_2 > 255 then (wimpleref4_PutOpt.j0 k true a0_0 a0_1 a0_2 a0_3 a0_4 l0_5) else (if a0_4 < 0 then (wimpleref4_PutOpt.j0 k true a0_0 a0_1 a0_2 a0_3 a0_4 l0_5) else (wimpleref4_PutOpt.j0 k (decide (a0_4 > 32767)) a0_0 a0_1 a0_2 a0_3 a0_4 l0_5)))))) = some (r1, r2, r3, r4, r5, r6) := by rw [if_pos rfl] at H; exact H
      clear H
      have H := H1
      clear H1
      by_cases c7 : a0_1 < 0
      · rw [if_pos c7] at H
        have c7b0 : decide (a0_1 < 0) = true := decide_eq_true c7
        clear c7
        (first | rw [c7b0] | (simp only [i64_w, i32_w]; rw [c7b0]) | skip)
        have H' := Aside0.mk H
        clear H
        have hnb8 := NB143_144.out
        have hnc8 := NB144_143.out
        (try clear hcz44_0 hcz44_1 hcz44_2 hcz44_3 hcz44_4 hfz44_0 hfz44_1 hfz44_2 hfz44_3 hfz44_4)
        (try clear hcz59_0 hcz59_1 hcz59_2 hcz59_3 hcz59_4 hfz59_0 hfz59_1 hfz59_2 hfz59_3 hfz59_4)
        (try clear hcz68_0 hcz68_1 hcz68_2 hcz68_3 hcz68_4 hcz68_5 hfz68_0 hfz68_1 hfz68_2 hfz68_3 hfz68_4 hfz68_5)
        (try clear hcz70_0 hcz70_1 hcz70_2 hcz70_3 hcz70_4 hfz70_0 hfz70_1 hfz70_2 hfz70_3 hfz70_4)
        (try clear hcz72_0 hcz72_1 hcz72_2 hcz72_3 hcz72_4 hcz72_5 hfz72_0 hfz72_1 hfz72_2 hfz72_3 hfz72_4 hfz72_5)
        (try clear hcz74_0 hcz74_1 hcz74_2 hcz74_3 hcz74_4 hfz74_0 hfz74_1 hfz74_2 hfz74_3 hfz74_4)
        have hcz9_0 : w4.cell? ⟨gb143, 0, none⟩ = some (.int .i64 a0_0) := (blk_cell BK143.out 0).trans rfl
        have hcz9_1 : w4.cell? ⟨gb143, 1, none⟩ = some (.int .i64 a0_1) := (blk_cell BK143.out 1).trans rfl
        have hcz9_2 : w4.cell? ⟨gb143, 2, none⟩ = some (.int .i64 a0_2) := (blk_cell BK143.out 2).trans rfl
        have hcz9_3 : w4.cell? ⟨gb143, 3, none⟩ = some (.bool a0_3) := (blk_cell BK143.out 3).trans rfl
        have hcz9_4 : w4.cell? ⟨gb143, 4, none⟩ = some (.int .i64 a0_4) := (blk_cell BK143.out 4).trans rfl
        have hcz9_5 : w4.cell? ⟨gb143, 5, none⟩ = some (.slice A0_5 l0_5.length c0_5) := (blk_cell BK143.out 5).trans rfl
        have hfz9_0 := blk_frozen BK143.out 0
        have hfz9_1 := blk_frozen BK143.out 1
        have hfz9_2 := blk_frozen BK143.out 2
        have hfz9_3 := blk_frozen BK143.out 3
        have hfz9_4 := blk_frozen BK143.out 4
        have hfz9_5 := blk_frozen BK143.out 5
        go_wp2_with (first | ((with_reducible refine gate_dst (N := 9) rfl ?_); (try (refine gate_guard (by rfl) ?_; dsimp only)); (with_reducible refine gate_callee (f := 48) rfl ?_); refine goesL_ (some 9) rfl rfl Try.func48 (by kernel_rfl) rfl #[.int .i64 a0_0] rfl (by (try simp only [List.map_toArray, List.map_cons, List.map_nil]); first | done | rfl | (simp only [List.length_drop, List.length_take]; rfl)) ?_; (with_reducible refine (wimpleref4_short.calls a0_0 true _ A5.out).mono ?_); rintro e w' ⟨rfl, ⟨nd, rfl⟩⟩; refine ⟨_, rfl, ?_⟩))
        go_meet
        case rel => exact ⟨_, (true), (by first | rfl | (simp; done) | (simp [*]; done)), H', ⟨by first | omega | exact Nat.le_refl _⟩, ⟨by (with_reducible repeat (first | refine blk_drewN ?_ _ | refine blk_drew ?_ | refine blk_alloc ?_ _)); exact BK143.out⟩, ⟨by (with_reducible repeat (first | refine blk_drewN ?_ _ | refine blk_drew ?_ | refine blk_alloc ?_ _)); exact BK144.out⟩, ⟨by repeat (first | (with_reducible first | exact HB.out | apply below_alloc | apply pw_below_drewN | apply below_drew1 | refine below_set ?_ GE143.out | refine below_set ?_ GE144.out) | exact HB.out)⟩⟩
      · rw [if_neg c7] at H
        have c7b0 : decide (a0_1 < 0) = false := decide_eq_false c7
        clear c7
        (first | rw [c7b0] | (simp only [i64_w, i32_w]; rw [c7b0]) | skip)
        by_cases c10 : a0_1 > 255
        · rw [if_pos c10] at H
          have c10b0 : decide (255 < a0_1) = true := decide_eq_true c10
          clear c10
          have H' := Aside0.mk H
          clear H
          have hnb11 := NB143_144.out
          have hnc11 := NB144_143.out
          (try clear hcz59_0 hcz59_1 hcz59_2 hcz59_3 hcz59_4 hfz59_0 hfz59_1 hfz59_2 hfz59_3 hfz59_4)
          (try clear hcz68_0 hcz68_1 hcz68_2 hcz68_3 hcz68_4 hcz68_5 hfz68_0 hfz68_1 hfz68_2 hfz68_3 hfz68_4 hfz68_5)
          (try clear hcz70_0 hcz70_1 hcz70_2 hcz70_3 hcz70_4 hfz70_0 hfz70_1 hfz70_2 hfz70_3 hfz70_4)
          (try clear hcz72_0 hcz72_1 hcz72_2 hcz72_3 hcz72_4 hcz72_5 hfz72_0 hfz72_1 hfz72_2 hfz72_3 hfz72_4 hfz72_5)
          (try clear hcz74_0 hcz74_1 hcz74_2 hcz74_3 hcz74_4 hfz74_0 hfz74_1 hfz74_2 hfz74_3 hfz74_4)
          have hcz12_0 : w4.cell? ⟨gb143, 0, none⟩ = some (.int .i64 a0_0) := (blk_cell BK143.out 0).trans rfl
          have hcz12_1 : w4.cell? ⟨gb143, 1, none⟩ = some (.int .i64 a0_1) := (blk_cell BK143.out 1).trans rfl
          have hcz12_2 : w4.cell? ⟨gb143, 2, none⟩ = some (.int .i64 a0_2) := (blk_cell BK143.out 2).trans rfl
          have hcz12_3 : w4.cell? ⟨gb143, 3, none⟩ = some (.bool a0_3) := (blk_cell BK143.out 3).trans rfl
          have hcz12_4 : w4.cell? ⟨gb143, 4, none⟩ = some (.int .i64 a0_4) := (blk_cell BK143.out 4).trans rfl
          have hcz12_5 : w4.cell? ⟨gb143, 5, none⟩ = some (.slice A0_5 l0_5.length c0_5) := (blk_cell BK143.out 5).trans rfl
          have hfz12_0 := blk_frozen BK143.out 0
          have hfz12_1 := blk_frozen BK143.out 1
          have hfz12_2 := blk_frozen BK143.out 2
          have hfz12_3 := blk_frozen BK143.out 3
          have hfz12_4 := blk_frozen BK143.out 4
          have hfz12_5 := blk_frozen BK143.out 5
          go_wp2_with (first | ((with_reducible refine gate_dst (N := 9) rfl ?_); (try (refine gate_guard (by rfl) ?_; dsimp only)); (with_reducible refine gate_callee (f := 48) rfl ?_); refine goesL_ (some 9) rfl rfl Try.func48 (by kernel_rfl) rfl #[.int .i64 a0_0] rfl (by (try simp only [List.map_toArray, List.map_cons, List.map_nil]); first | done | rfl | (simp only [List.length_drop, List.length_take]; rfl)) ?_; (with_reducible refine (wimpleref4_short.calls a0_0 true _ A5.out).mono ?_); rintro e w' ⟨rfl, ⟨nd, rfl⟩⟩; refine ⟨_, rfl, ?_⟩))
          go_meet
          case rel => exact ⟨_, (true), (by first | rfl | (simp; done) | (simp [*]; done)), H', ⟨by first | omega | exact Nat.le_refl _⟩, ⟨by (with_reducible repeat (first | refine blk_drewN ?_ _ | refine blk_drew ?_ | refine blk_alloc ?_ _)); exact BK143.out⟩, ⟨by (with_reducible repeat (first | refine blk_drewN ?_ _ | refine blk_drew ?_ | refine blk_alloc ?_ _)); exact BK144.out⟩, ⟨by repeat (first | (with_reducible first | exact HB.out | apply below_alloc | apply pw_below_drewN | apply below_drew1 | refine below_set ?_ GE143.out | refine below_set ?_ GE144.out) | exact HB.out)⟩⟩
        · rw [if_neg c10] at H
          have c10b0 : decide (255 < a0_1) = false := decide_eq_false c10
          clear c10
          by_cases c13 : a0_2 < 0
          · rw [if_pos c13] at H
            have c13b0 : decide (a0_2 < 0) = true := decide_eq_true c13
            clear c13
            have H' := Aside0.mk H
            clear H
            have hnb14 := NB143_144.out
            have hnc14 := NB144_143.out
            (try clear hcz68_0 hcz68_1 hcz68_2 hcz68_3 hcz68_4 hcz68_5 hfz68_0 hfz68_1 hfz68_2 hfz68_3 hfz68_4 hfz68_5)
            (try clear hcz70_0 hcz70_1 hcz70_2 hcz70_3 hcz70_4 hfz70_0 hfz70_1 hfz70_2 hfz70_3 hfz70_4)
            (try clear hcz72_0 hcz72_1 hcz72_2 hcz72_3 hcz72_4 hcz72_5 hfz72_0 hfz72_1 hfz72_2 hfz72_3 hfz72_4 hfz72_5)
            (try clear hcz74_0 hcz74_1 hcz74_2 hcz74_3 hcz74_4 hfz74_0 hfz74_1 hfz74_2 hfz74_3 hfz74_4)
            have hcz15_0 : w4.cell? ⟨gb143, 0, none⟩ = some (.int .i64 a0_0) := (blk_cell BK143.out 0).trans rfl
            have hcz15_1 : w4.cell? ⟨gb143, 1, none⟩ = some (.int .i64 a0_1) := (blk_cell BK143.out 1).trans rfl
            have hcz15_2 : w4.cell? ⟨gb143, 2, none⟩ = some (.int .i64 a0_2) := (blk_cell BK143.out 2).trans rfl
            have hcz15_3 : w4.cell? ⟨gb143, 3, none⟩ = some (.bool a0_3) := (blk_cell BK143.out 3).trans rfl
            have hcz15_4 : w4.cell? ⟨gb143, 4, none⟩ = some (.int .i64 a0_4) := (blk_cell BK143.out 4).trans rfl
            have hcz15_5 : w4.cell? ⟨gb143, 5, none⟩ = some (.slice A0_5 l0_5.length c0_5) := (blk_cell BK143.out 5).trans rfl
            have hfz15_0 := blk_frozen BK143.out 0
            have hfz15_1 := blk_frozen BK143.out 1
            have hfz15_2 := blk_frozen BK143.out 2
            have hfz15_3 := blk_frozen BK143.out 3
            have hfz15_4 := blk_frozen BK143.out 4
            have hfz15_5 := blk_frozen BK143.out 5
            go_wp2_with (first | ((with_reducible refine gate_dst (N := 9) rfl ?_); (try (refine gate_guard (by rfl) ?_; dsimp only)); (with_reducible refine gate_callee (f := 48) rfl ?_); refine goesL_ (some 9) rfl rfl Try.func48 (by kernel_rfl) rfl #[.int .i64 a0_0] rfl (by (try simp only [List.map_toArray, List.map_cons, List.map_nil]); first | done | rfl | (simp only [List.length_drop, List.length_take]; rfl)) ?_; (with_reducible refine (wimpleref4_short.calls a0_0 true _ A5.out).mono ?_); rintro e w' ⟨rfl, ⟨nd, rfl⟩⟩; refine ⟨_, rfl, ?_⟩))
            go_meet
            case rel => exact ⟨_, (true), (by first | rfl | (simp; done) | (simp [*]; done)), H', ⟨by first | omega | exact Nat.le_refl _⟩, ⟨by (with_reducible repeat (first | refine blk_drewN ?_ _ | refine blk_drew ?_ | refine blk_alloc ?_ _)); exact BK143.out⟩, ⟨by (with_reducible repeat (first | refine blk_drewN ?_ _ | refine blk_drew ?_ | refine blk_alloc ?_ _)); exact BK144.out⟩, ⟨by repeat (first | (with_reducible first | exact HB.out | apply below_alloc | apply pw_below_drewN | apply below_drew1 | refine below_set ?_ GE143.out | refine below_set ?_ GE144.out) | exact HB.out)⟩⟩
          · rw [if_neg c13] at H
            have c13b0 : decide (a0_2 < 0) = false := decide_eq_false c13
            clear c13
            by_cases c16 : a0_2 > 255
            · rw [if_pos c16] at H
              have c16b0 : decide (255 < a0_2) = true := decide_eq_true c16
              clear c16
              have H' := Aside0.mk H
              clear H
              have hnb17 := NB143_144.out
              have hnc17 := NB144_143.out
              (try clear hcz70_0 hcz70_1 hcz70_2 hcz70_3 hcz70_4 hfz70_0 hfz70_1 hfz70_2 hfz70_3 hfz70_4)
              (try clear hcz72_0 hcz72_1 hcz72_2 hcz72_3 hcz72_4 hcz72_5 hfz72_0 hfz72_1 hfz72_2 hfz72_3 hfz72_4 hfz72_5)
              (try clear hcz74_0 hcz74_1 hcz74_2 hcz74_3 hcz74_4 hfz74_0 hfz74_1 hfz74_2 hfz74_3 hfz74_4)
              have hcz18_0 : w4.cell? ⟨gb143, 0, none⟩ = some (.int .i64 a0_0) := (blk_cell BK143.out 0).trans rfl
              have hcz18_1 : w4.cell? ⟨gb143, 1, none⟩ = some (.int .i64 a0_1) := (blk_cell BK143.out 1).trans rfl
              have hcz18_2 : w4.cell? ⟨gb143, 2, none⟩ = some (.int .i64 a0_2) := (blk_cell BK143.out 2).trans rfl
              have hcz18_3 : w4.cell? ⟨gb143, 3, none⟩ = some (.bool a0_3) := (blk_cell BK143.out 3).trans rfl
              have hcz18_4 : w4.cell? ⟨gb143, 4, none⟩ = some (.int .i64 a0_4) := (blk_cell BK143.out 4).trans rfl
              have hcz18_5 : w4.cell? ⟨gb143, 5, none⟩ = some (.slice A0_5 l0_5.length c0_5) := (blk_cell BK143.out 5).trans rfl
              have hfz18_0 := blk_frozen BK143.out 0
              have hfz18_1 := blk_frozen BK143.out 1
              have hfz18_2 := blk_frozen BK143.out 2
              have hfz18_3 := blk_frozen BK143.out 3
              have hfz18_4 := blk_frozen BK143.out 4
              have hfz18_5 := blk_frozen BK143.out 5
              go_wp2_with (first | ((with_reducible refine gate_dst (N := 9) rfl ?_); (try (refine gate_guard (by rfl) ?_; dsimp only)); (with_reducible refine gate_callee (f := 48) rfl ?_); refine goesL_ (some 9) rfl rfl Try.func48 (by kernel_rfl) rfl #[.int .i64 a0_0] rfl (by (try simp only [List.map_toArray, List.map_cons, List.map_nil]); first | done | rfl | (simp only [List.length_drop, List.length_take]; rfl)) ?_; (with_reducible refine (wimpleref4_short.calls a0_0 true _ A5.out).mono ?_); rintro e w' ⟨rfl, ⟨nd, rfl⟩⟩; refine ⟨_, rfl, ?_⟩))
              go_meet
              case rel => exact ⟨_, (true), (by first | rfl | (simp; done) | (simp [*]; done)), H', ⟨by first | omega | exact Nat.le_refl _⟩, ⟨by (with_reducible repeat (first | refine blk_drewN ?_ _ | refine blk_drew ?_ | refine blk_alloc ?_ _)); exact BK143.out⟩, ⟨by (with_reducible repeat (first | refine blk_drewN ?_ _ | refine blk_drew ?_ | refine blk_alloc ?_ _)); exact BK144.out⟩, ⟨by repeat (first | (with_reducible first | exact HB.out | apply below_alloc | apply pw_below_drewN | apply below_drew1 | refine below_set ?_ GE143.out | refine below_set ?_ GE144.out) | exact HB.out)⟩⟩
            · rw [if_neg c16] at H
              have c16b0 : decide (255 < a0_2) = false := decide_eq_false c16
              clear c16
              by_cases c19 : a0_4 < 0
              · rw [if_pos c19] at H
                have c19b0 : decide (a0_4 < 0) = true := decide_eq_true c19
                clear c19
                have H' := Aside0.mk H
                clear H
                have hnb20 := NB143_144.out
                have hnc20 := NB144_143.out
                (try clear hcz72_0 hcz72_1 hcz72_2 hcz72_3 hcz72_4 hcz72_5 hfz72_0 hfz72_1 hfz72_2 hfz72_3 hfz72_4 hfz72_5)
                (try clear hcz74_0 hcz74_1 hcz74_2 hcz74_3 hcz74_4 hfz74_0 hfz74_1 hfz74_2 hfz74_3 hfz74_4)
                have hcz21_0 : w4.cell? ⟨gb143, 0, none⟩ = some (.int .i64 a0_0) := (blk_cell BK143.out 0).trans rfl
                have hcz21_1 : w4.cell? ⟨gb143, 1, none⟩ = some (.int .i64 a0_1) := (blk_cell BK143.out 1).trans rfl
                have hcz21_2 : w4.cell? ⟨gb143, 2, none⟩ = some (.int .i64 a0_2) := (blk_cell BK143.out 2).trans rfl
                have hcz21_3 : w4.cell? ⟨gb143, 3, none⟩ = some (.bool a0_3) := (blk_cell BK143.out 3).trans rfl
                have hcz21_4 : w4.cell? ⟨gb143, 4, none⟩ = some (.int .i64 a0_4) := (blk_cell BK143.out 4).trans rfl
                have hcz21_5 : w4.cell? ⟨gb143, 5, none⟩ = some (.slice A0_5 l0_5.length c0_5) := (blk_cell BK143.out 5).trans rfl
                have hfz21_0 := blk_frozen BK143.out 0
                have hfz21_1 := blk_frozen BK143.out 1
                have hfz21_2 := blk_frozen BK143.out 2
                have hfz21_3 := blk_frozen BK143.out 3
                have hfz21_4 := blk_frozen BK143.out 4
                have hfz21_5 := blk_frozen BK143.out 5
                go_wp2_with (first | ((with_reducible refine gate_dst (N := 9) rfl ?_); (try (refine gate_guard (by rfl) ?_; dsimp only)); (with_reducible refine gate_callee (f := 48) rfl ?_); refine goesL_ (some 9) rfl rfl Try.func48 (by kernel_rfl) rfl #[.int .i64 a0_0] rfl (by (try simp only [List.map_toArray, List.map_cons, List.map_nil]); first | done | rfl | (simp only [List.length_drop, List.length_take]; rfl)) ?_; (with_reducible refine (wimpleref4_short.calls a0_0 true _ A5.out).mono ?_); rintro e w' ⟨rfl, ⟨nd, rfl⟩⟩; refine ⟨_, rfl, ?_⟩))
                go_meet
                case rel => exact ⟨_, (true), (by first | rfl | (simp; done) | (simp [*]; done)), H', ⟨by first | omega | exact Nat.le_refl _⟩, ⟨by (with_reducible repeat (first | refine blk_drewN ?_ _ | refine blk_drew ?_ | refine blk_alloc ?_ _)); exact BK143.out⟩, ⟨by (with_reducible repeat (first | refine blk_drewN ?_ _ | refine blk_drew ?_ | refine blk_alloc ?_ _)); exact BK144.out⟩, ⟨by repeat (first | (with_reducible first | exact HB.out | apply below_alloc | apply pw_below_drewN | apply below_drew1 | refine below_set ?_ GE143.out | refine below_set ?_ GE144.out) | exact HB.out)⟩⟩
              · rw [if_neg c19] at H
                have c19b0 : decide (a0_4 < 0) = false := decide_eq_false c19
                clear c19
                have H' := Aside0.mk H
                clear H
                have hnb22 := NB143_144.out
                have hnc22 := NB144_143.out
                (try clear hcz74_0 hcz74_1 hcz74_2 hcz74_3 hcz74_4 hfz74_0 hfz74_1 hfz74_2 hfz74_3 hfz74_4)
                have hcz23_0 : w4.cell? ⟨gb143, 0, none⟩ = some (.int .i64 a0_0) := (blk_cell BK143.out 0).trans rfl
                have hcz23_1 : w4.cell? ⟨gb143, 1, none⟩ = some (.int .i64 a0_1) := (blk_cell BK143.out 1).trans rfl
                have hcz23_2 : w4.cell? ⟨gb143, 2, none⟩ = some (.int .i64 a0_2) := (blk_cell BK143.out 2).trans rfl
                have hcz23_3 : w4.cell? ⟨gb143, 3, none⟩ = some (.bool a0_3) := (blk_cell BK143.out 3).trans rfl
                have hcz23_4 : w4.cell? ⟨gb143, 4, none⟩ = some (.int .i64 a0_4) := (blk_cell BK143.out 4).trans rfl
                have hcz23_5 : w4.cell? ⟨gb143, 5, none⟩ = some (.slice A0_5 l0_5.length c0_5) := (blk_cell BK143.out 5).trans rfl
                have hfz23_0 := blk_frozen BK143.out 0
                have hfz23_1 := blk_frozen BK143.out 1
                have hfz23_2 := blk_frozen BK143.out 2
                have hfz23_3 := blk_frozen BK143.out 3
                have hfz23_4 := blk_frozen BK143.out 4
                have hfz23_5 := blk_frozen BK143.out 5
                go_wp2_with (first | ((with_reducible refine gate_dst (N := 9) rfl ?_); (try (refine gate_guard (by rfl) ?_; dsimp only)); (with_reducible refine gate_callee (f := 48) rfl ?_); refine goesL_ (some 9) rfl rfl Try.func48 (by kernel_rfl) rfl #[.int .i64 a0_0] rfl (by (try simp only [List.map_toArray, List.map_cons, List.map_nil]); first | done | rfl | (simp only [List.length_drop, List.length_take]; rfl)) ?_; (with_reducible refine (wimpleref4_short.calls a0_0 true _ A5.out).mono ?_); rintro e w' ⟨rfl, ⟨nd, rfl⟩⟩; refine ⟨_, rfl, ?_⟩))
                go_meet
                case rel => exact ⟨_, (decide (a0_4 > 32767)), (by first | rfl | (simp; done) | (simp [*]; done)), H', ⟨by first | omega | exact Nat.le_refl _⟩, ⟨by (with_reducible repeat (first | refine blk_drewN ?_ _ | refine blk_drew ?_ | refine blk_alloc ?_ _)); exact BK143.out⟩, ⟨by (with_reducible repeat (first | refine blk_drewN ?_ _ | refine blk_drew ?_ | refine blk_alloc ?_ _)); exact BK144.out⟩, ⟨by repeat (first | (with_reducible first | exact HB.out | apply below_alloc | apply pw_below_drewN | apply below_drew1 | refine below_set ?_ GE143.out | refine below_set ?_ GE144.out) | exact HB.out)⟩⟩
    · replace c6 := Bool.eq_false_iff.mpr c6
      subst c6
      have H1 : (wimpleref4_PutOpt.j0 k true a0_0 a0_1 a0_2 a0_3 a0_4 l0_5) = some (r1, r2, r3, r4, r5, r6) := by rw [if_neg (show ¬ (false = true) by decide)] at H; exact H
      clear H
      have H := H1
      clear H1
      have H' := Aside0.mk H
      clear H
      have hnb24 := NB143_144.out
      have hnc24 := NB144_143.out
      have hcz25_0 : w4.cell? ⟨gb143, 0, none⟩ = some (.int .i64 a0_0) := (blk_cell BK143.out 0).trans rfl
      have hcz25_1 : w4.cell? ⟨gb143, 1, none⟩ = some (.int .i64 a0_1) := (blk_cell BK143.out 1).trans rfl
      have hcz25_2 : w4.cell? ⟨gb143, 2, none⟩ = some (.int .i64 a0_2) := (blk_cell BK143.out 2).trans rfl
      have hcz25_3 : w4.cell? ⟨gb143, 3, none⟩ = some (.bool a0_3) := (blk_cell BK143.out 3).trans rfl
      have hcz25_4 : w4.cell? ⟨gb143, 4, none⟩ = some (.int .i64 a0_4) := (blk_cell BK143.out 4).trans rfl
      have hcz25_5 : w4.cell? ⟨gb143, 5, none⟩ = some (.slice A0_5 l0_5.length c0_5) := (blk_cell BK143.out 5).trans rfl
      have hfz25_0 := blk_frozen BK143.out 0
      have hfz25_1 := blk_frozen BK143.out 1
      have hfz25_2 := blk_frozen BK143.out 2
      have hfz25_3 := blk_frozen BK143.out 3
      have hfz25_4 := blk_frozen BK143.out 4
      have hfz25_5 := blk_frozen BK143.out 5
      go_wp2_with (first | ((with_reducible refine gate_dst (N := 9) rfl ?_); (try (refine gate_guard (by rfl) ?_; dsimp only)); (with_reducible refine gate_callee (f := 48) rfl ?_); refine goesL_ (some 9) rfl rfl Try.func48 (by kernel_rfl) rfl #[.int .i64 a0_0] rfl (by (try simp only [List.map_toArray, List.map_cons, List.map_nil]); first | done | rfl | (simp only [List.length_drop, List.length_take]; rfl)) ?_; (with_reducible refine (wimpleref4_short.calls a0_0 false _ A5.out).mono ?_); rintro e w' ⟨rfl, ⟨nd, rfl⟩⟩; refine ⟨_, rfl, ?_⟩))
      go_meet
      case rel => exact ⟨_, (true), (by first | rfl | (simp; done) | (simp [*]; done)), H', ⟨by first | omega | exact Nat.le_refl _⟩, ⟨by (with_reducible repeat (first | refine blk_drewN ?_ _ | refine blk_drew ?_ | refine blk_alloc ?_ _)); exact BK143.out⟩, ⟨by (with_reducible repeat (first | refine blk_drewN ?_ _ | refine blk_drew ?_ | refine blk_alloc ?_ _)); exact BK144.out⟩, ⟨by repeat (first | (with_reducible first | exact HB.out | apply below_alloc | apply pw_below_drewN | apply below_drew1 | refine below_set ?_ GE143.out | refine below_set ?_ GE144.out) | exact HB.out)⟩⟩
  case rest =>
    clear HC2
    try clear c1
    try clear c2
    try clear p2
    try clear c4
    try clear c6
    try clear c7
    try clear c7b0
    try clear c8
    try clear c10
    try clear c10b0
    try clear c11
    try clear c13
    try clear c13b0
    try clear c14
    try clear c15
    try clear c16
    try clear c16b0
    try clear c17
    try clear c19
    try clear c19b0
    try clear c20
    try clear c22
    try clear c24
    try clear hcz12_0
    try clear hcz12_1
    try clear hcz12_2
    try clear hcz12_3
    try clear hcz12_4
    try clear hcz12_5
    try clear hcz15_0
    try clear hcz15_1
    try clear hcz15_2
    try clear hcz15_3
    try clear hcz15_4
    try clear hcz15_5
    try clear hcz18_0
    try clear hcz18_1
    try clear hcz18_2
    try clear hcz18_3
    try clear hcz18_4
    try clear hcz18_5
    try clear hcz21_0
    try clear hcz21_1
    try clear hcz21_2
    try clear hcz21_3
    try clear hcz21_4
    try clear hcz21_5
    try clear hcz23_0
    try clear hcz23_1
    try clear hcz23_2
    try clear hcz23_3
    try clear hcz23_4
    try clear hcz23_5
    try clear hcz25_0
    try clear hcz25_1
    try clear hcz25_2
    try clear hcz25_3
    try clear hcz25_4
    try clear hcz25_5
    try clear hcz44_0
    try clear hcz44_1
    try clear hcz44_2
    try clear hcz44_3
    try clear hcz44_4
    try clear hcz59_0
    try clear hcz59_1
    try clear hcz59_2
    try clear hcz59_3
    try clear hcz59_4
    try clear hcz68_0
    try clear hcz68_1
    try clear hcz68_2
    try clear hcz68_3
    try clear hcz68_4
    try clear hcz68_5
    try clear hcz70_0
    try clear hcz70_1
    try clear hcz70_2
    try clear hcz70_3
    try clear hcz70_4
    try clear hcz72_0
    try clear hcz72_1
    try clear hcz72_2
    try clear hcz72_3
    try clear hcz72_4
    try clear hcz72_5
    try clear hcz74_0
    try clear hcz74_1
    try clear hcz74_2
    try clear hcz74_3
    try clear hcz74_4
    try clear hcz9_0
    try clear hcz9_1
    try clear hcz9_2
    try clear hcz9_3
    try clear hcz9_4
    try clear hcz9_5
    try clear hfz12_0
    try clear hfz12_1
    try clear hfz12_2
    try clear hfz12_3
    try clear hfz12_4
    try clear hfz12_5
    try clear hfz15_0
    try clear hfz15_1
    try clear hfz15_2
    try clear hfz15_3
    try clear hfz15_4
    try clear hfz15_5
    try clear hfz18_0
    try clear hfz18_1
    try clear hfz18_2
    try clear hfz18_3
    try clear hfz18_4
    try clear hfz18_5
    try clear hfz21_0
    try clear hfz21_1
    try clear hfz21_2
    try clear hfz21_3
    try clear hfz21_4
    try clear hfz21_5
    try clear hfz23_0
    try clear hfz23_1
    try clear hfz23_2
    try clear hfz23_3
    try clear hfz23_4
    try clear hfz23_5
    try clear hfz25_0
    try clear hfz25_1
    try clear hfz25_2
    try clear hfz25_3
    try clear hfz25_4
    try clear hfz25_5
    try clear hfz44_0
    try clear hfz44_1
    try clear hfz44_2
    try clear hfz44_3
    try clear hfz44_4
    try clear hfz59_0
    try clear hfz59_1
    try clear hfz59_2
    try clear hfz59_3
    try clear hfz59_4
    try clear hfz68_0
    try clear hfz68_1
    try clear hfz68_2
    try clear hfz68_3
    try clear hfz68_4
    try clear hfz68_5
    try clear hfz70_0
    try clear hfz70_1
    try clear hfz70_2
    try clear hfz70_3
    try clear hfz70_4
    try clear hfz72_0
    try clear hfz72_1
    try clear hfz72_2
    try clear hfz72_3
    try clear hfz72_4
    try clear hfz72_5
    try clear hfz74_0
    try clear hfz74_1
    try clear hfz74_2
    try clear hfz74_3
    try clear hfz74_4
    try clear hfz9_0
    try clear hfz9_1
    try clear hfz9_2
    try clear hfz9_3
    try clear hfz9_4
    try clear hfz9_5
    obtain ⟨kq, x40_1, rfl, HA, HJ1, BK143, BK144, HB⟩ := hcut
    cases kq with
    | zero => exact absurd HA.out (by simp [wimpleref4_PutOpt.j0])
    | succ kj1 =>
      have H := HA.out
      clear HA
      simp only [wimpleref4_PutOpt.j0] at H
      by_cases c26 : x40_1 = true
      · subst c26
        have H1 : (some ((⟨#[]⟩ : ByteArray), 0, 0, 0, (⟨#[]⟩ : ByteArray), 800)) = some (r1, r2, r3, r4, r5, r6) := by rw [if_pos rfl] at H; exact H
        clear H
        have H := H1
        clear H1
        simp only [Option.some.injEq, Prod.mk.injEq] at H
        obtain ⟨rfl, rfl, rfl, rfl, rfl, rfl⟩ := H
        have hnb27 := NB144_143.out
        have hnc27 := NB143_144.out
        (try clear hcz12_0 hcz12_1 hcz12_2 hcz12_3 hcz12_4 hcz12_5 hfz12_0 hfz12_1 hfz12_2 hfz12_3 hfz12_4 hfz12_5)
        (try clear hcz15_0 hcz15_1 hcz15_2 hcz15_3 hcz15_4 hcz15_5 hfz15_0 hfz15_1 hfz15_2 hfz15_3 hfz15_4 hfz15_5)
        (try clear hcz18_0 hcz18_1 hcz18_2 hcz18_3 hcz18_4 hcz18_5 hfz18_0 hfz18_1 hfz18_2 hfz18_3 hfz18_4 hfz18_5)
        (try clear hcz21_0 hcz21_1 hcz21_2 hcz21_3 hcz21_4 hcz21_5 hfz21_0 hfz21_1 hfz21_2 hfz21_3 hfz21_4 hfz21_5)
        (try clear hcz23_0 hcz23_1 hcz23_2 hcz23_3 hcz23_4 hcz23_5 hfz23_0 hfz23_1 hfz23_2 hfz23_3 hfz23_4 hfz23_5)
        (try clear hcz25_0 hcz25_1 hcz25_2 hcz25_3 hcz25_4 hcz25_5 hfz25_0 hfz25_1 hfz25_2 hfz25_3 hfz25_4 hfz25_5)
        have hcz28_0 : wc.cell? ⟨gb144, 0, none⟩ = some (.string (⟨#[]⟩ : ByteArray)) := (blk_cell BK144.out 0).trans rfl
        have hcz28_1 : wc.cell? ⟨gb144, 1, none⟩ = some (.int .i64 0) := (blk_cell BK144.out 1).trans rfl
        have hcz28_2 : wc.cell? ⟨gb144, 2, none⟩ = some (.int .i64 0) := (blk_cell BK144.out 2).trans rfl
        have hcz28_3 : wc.cell? ⟨gb144, 3, none⟩ = some (.int .i64 0) := (blk_cell BK144.out 3).trans rfl
        have hcz28_4 : wc.cell? ⟨gb144, 4, none⟩ = some (.string (⟨#[]⟩ : ByteArray)) := (blk_cell BK144.out 4).trans rfl
        have hfz28_0 := blk_frozen BK144.out 0
        have hfz28_1 := blk_frozen BK144.out 1
        have hfz28_2 := blk_frozen BK144.out 2
        have hfz28_3 := blk_frozen BK144.out 3
        have hfz28_4 := blk_frozen BK144.out 4
        go_wp2
        refine bodyPost_ret (results_ct rfl _ _ gb144 26 #[.string (⟨#[]⟩ : ByteArray), .int .i64 0, .int .i64 0, .int .i64 0, .string (⟨#[]⟩ : ByteArray)] (0, 0) _ rfl (by (with_reducible repeat (first | refine blk_drewN ?_ _ | refine blk_drew ?_ | refine blk_alloc ?_ _)); refine blk_put (cs := #[.string (⟨#[]⟩ : ByteArray), .int .i64 0, .int .i64 0, .int .i64 0, .string (⟨#[]⟩ : ByteArray)]) ?_ 4 _ rfl; (with_reducible repeat (first | refine blk_drewN ?_ _ | refine blk_drew ?_ | refine blk_alloc ?_ _)); refine blk_put (cs := #[.string (⟨#[]⟩ : ByteArray), .int .i64 0, .int .i64 0, .int .i64 0, .string (⟨#[]⟩ : ByteArray)]) ?_ 3 _ rfl; (with_reducible repeat (first | refine blk_drewN ?_ _ | refine blk_drew ?_ | refine blk_alloc ?_ _)); refine blk_put (cs := #[.string (⟨#[]⟩ : ByteArray), .int .i64 0, .int .i64 0, .int .i64 0, .string (⟨#[]⟩ : ByteArray)]) ?_ 2 _ rfl; (with_reducible repeat (first | refine blk_drewN ?_ _ | refine blk_drew ?_ | refine blk_alloc ?_ _)); refine blk_put (cs := #[.string (⟨#[]⟩ : ByteArray), .int .i64 0, .int .i64 0, .int .i64 0, .string (⟨#[]⟩ : ByteArray)]) ?_ 1 _ rfl; (with_reducible repeat (first | refine blk_drewN ?_ _ | refine blk_drew ?_ | refine blk_alloc ?_ _)); refine blk_put (cs := #[.string (⟨#[]⟩ : ByteArray), .int .i64 0, .int .i64 0, .int .i64 0, .string (⟨#[]⟩ : ByteArray)]) ?_ 0 _ rfl; (with_reducible repeat (first | refine blk_drewN ?_ _ | refine blk_drew ?_ | refine blk_alloc ?_ _)); exact BK144.out) Try.underlying26 rfl (by kernel_rfl)) rfl ?_
        exact ⟨by first | rfl | (simp [errW_none, errW_some] <;> rfl) | (simp [*, errW_none, errW_some] <;> rfl), by repeat (first | (with_reducible first | exact HB.out | apply below_alloc | apply pw_below_drewN | apply below_drew1 | refine below_set ?_ GE143.out | refine below_set ?_ GE144.out) | exact HB.out)⟩
      · replace c26 := Bool.eq_false_iff.mpr c26
        subst c26
        have H1 : (wimpleref4_PutOpt.l0 kj1 (⟨#[]⟩ : ByteArray) 0 a0_0 a0_1 a0_2 a0_3 a0_4 l0_5) = some (r1, r2, r3, r4, r5, r6) := by rw [if_neg (show ¬ (false = true) by decide)] at H; exact H
        clear H
        have H := H1
        clear H1
        have H' := Aside0.mk H
        clear H
        go_wp2
        go_loopg [4, 5] kj1 (fun kq v4 v5 w' => ∃ (x4_2 : ByteArray) (x5_2 : Int) (x145000_2 : ByteArray) (x145001_2 : Int) (x145002_2 : Int) (x145003_2 : Int) (x145004_2 : ByteArray), v4 = .string x4_2 ∧ v5 = .int .i64 x5_2 ∧ Aside0 (wimpleref4_PutOpt.l0 kq x4_2 x5_2 a0_0 a0_1 a0_2 a0_3 a0_4 l0_5 = some (r1, r2, r3, r4, r5, r6)) ∧ Aside0 (kq ≤ kj1) ∧ Aside0 (w'.heap[gb143]? = some (.cells #[.int .i64 a0_0, .int .i64 a0_1, .int .i64 a0_2, .bool a0_3, .int .i64 a0_4, (.slice A0_5 l0_5.length c0_5)] 24 (0, 0))) ∧ Aside0 (w'.heap[gb144]? = some (.cells #[.string x145000_2, .int .i64 x145001_2, .int .i64 x145002_2, .int .i64 x145003_2, .string x145004_2] 26 (0, 0))) ∧ Aside0 (Below w.heap.size w w'))
        case atStart => exact ⟨((⟨#[]⟩ : ByteArray)), (0), ((⟨#[]⟩ : ByteArray)), (0), (0), (0), ((⟨#[]⟩ : ByteArray)), (by first | rfl | (simp; done) | (simp [*]; done)), (by first | rfl | (simp; done) | (simp [*]; done)), H', ⟨Nat.le_refl _⟩, ⟨by (with_reducible repeat (first | refine blk_drewN ?_ _ | refine blk_drew ?_ | refine blk_alloc ?_ _)); exact BK143.out⟩, ⟨by (with_reducible repeat (first | refine blk_drewN ?_ _ | refine blk_drew ?_ | refine blk_alloc ?_ _)); exact BK144.out⟩, ⟨by repeat (first | (with_reducible first | exact HB.out | apply below_alloc | apply pw_below_drewN | apply below_drew1 | refine below_set ?_ GE143.out | refine below_set ?_ GE144.out) | exact HB.out)⟩⟩
        case round =>
          clear H'
          try clear c1
          try clear c2
          try clear p2
          try clear c4
          try clear c6
          try clear c7
          try clear c7b0
          try clear c8
          try clear c10
          try clear c10b0
          try clear c11
          try clear c13
          try clear c13b0
          try clear c14
          try clear c15
          try clear c16
          try clear c16b0
          try clear c17
          try clear c19
          try clear c19b0
          try clear c20
          try clear c22
          try clear c24
          try clear c26
          try clear c27
          try clear hcz12_0
          try clear hcz12_1
          try clear hcz12_2
          try clear hcz12_3
          try clear hcz12_4
          try clear hcz12_5
          try clear hcz15_0
          try clear hcz15_1
          try clear hcz15_2
          try clear hcz15_3
          try clear hcz15_4
          try clear hcz15_5
          try clear hcz18_0
          try clear hcz18_1
          try clear hcz18_2
          try clear hcz18_3
          try clear hcz18_4
          try clear hcz18_5
          try clear hcz21_0
          try clear hcz21_1
          try clear hcz21_2
          try clear hcz21_3
          try clear hcz21_4
          try clear hcz21_5
          try clear hcz23_0
          try clear hcz23_1
          try clear hcz23_2
          try clear hcz23_3
          try clear hcz23_4
          try clear hcz23_5
          try clear hcz25_0
          try clear hcz25_1
          try clear hcz25_2
          try clear hcz25_3
          try clear hcz25_4
          try clear hcz25_5
          try clear hcz28_0
          try clear hcz28_1
          try clear hcz28_2
          try clear hcz28_3
          try clear hcz28_4
          try clear hcz44_0
          try clear hcz44_1
          try clear hcz44_2
          try clear hcz44_3
          try clear hcz44_4
          try clear hcz59_0
          try clear hcz59_1
          try clear hcz59_2
          try clear hcz59_3
          try clear hcz59_4
          try clear hcz68_0
          try clear hcz68_1
          try clear hcz68_2
          try clear hcz68_3
          try clear hcz68_4
          try clear hcz68_5
          try clear hcz70_0
          try clear hcz70_1
          try clear hcz70_2
          try clear hcz70_3
          try clear hcz70_4
          try clear hcz72_0
          try clear hcz72_1
          try clear hcz72_2
          try clear hcz72_3
          try clear hcz72_4
          try clear hcz72_5
          try clear hcz74_0
          try clear hcz74_1
          try clear hcz74_2
          try clear hcz74_3
          try clear hcz74_4
          try clear hcz9_0
          try clear hcz9_1
          try clear hcz9_2
          try clear hcz9_3
          try clear hcz9_4
          try clear hcz9_5
          try clear hfz12_0
          try clear hfz12_1
          try clear hfz12_2
          try clear hfz12_3
          try clear hfz12_4
          try clear hfz12_5
          try clear hfz15_0
          try clear hfz15_1
          try clear hfz15_2
          try clear hfz15_3
          try clear hfz15_4
          try clear hfz15_5
          try clear hfz18_0
          try clear hfz18_1
          try clear hfz18_2
          try clear hfz18_3
          try clear hfz18_4
          try clear hfz18_5
          try clear hfz21_0
          try clear hfz21_1
          try clear hfz21_2
          try clear hfz21_3
          try clear hfz21_4
          try clear hfz21_5
          try clear hfz23_0
          try clear hfz23_1
          try clear hfz23_2
          try clear hfz23_3
          try clear hfz23_4
          try clear hfz23_5
          try clear hfz25_0
          try clear hfz25_1
          try clear hfz25_2
          try clear hfz25_3
          try clear hfz25_4
          try clear hfz25_5
          try clear hfz28_0
          try clear hfz28_1
          try clear hfz28_2
          try clear hfz28_3
          try clear hfz28_4
          try clear hfz44_0
          try clear hfz44_1
          try clear hfz44_2
          try clear hfz44_3
          try clear hfz44_4
          try clear hfz59_0
          try clear hfz59_1
          try clear hfz59_2
          try clear hfz59_3
          try clear hfz59_4
          try clear hfz68_0
          try clear hfz68_1
          try clear hfz68_2
          try clear hfz68_3
          try clear hfz68_4
          try clear hfz68_5
          try clear hfz70_0
          try clear hfz70_1
          try clear hfz70_2
          try clear hfz70_3
          try clear hfz70_4
          try clear hfz72_0
          try clear hfz72_1
          try clear hfz72_2
          try clear hfz72_3
          try clear hfz72_4
          try clear hfz72_5
          try clear hfz74_0
          try clear hfz74_1
          try clear hfz74_2
          try clear hfz74_3
          try clear hfz74_4
          try clear hfz9_0
          try clear hfz9_1
          try clear hfz9_2
          try clear hfz9_3
          try clear hfz9_4
          try clear hfz9_5
          try clear p2
          obtain ⟨x4_2, x5_2, x145000_2, x145001_2, x145002_2, x145003_2, x145004_2, rfl, rfl, HA, HK2, BK143, BK144, HB⟩ := hrel
          cases gk with
          | zero => exact absurd HA.out (by simp [wimpleref4_PutOpt.l0])
          | succ k2 =>
            have H := HA.out
            clear HA
            simp only [wimpleref4_PutOpt.l0] at H
            by_cases c29 : x5_2 < (l0_5.length : Int)
            · rw [if_pos c29] at H
              have c29b0 : decide (x5_2 < (l0_5.length : Int)) = true := decide_eq_true c29
              clear c29
              by_cases c30 : 0 ≤ x5_2
              · rw [if_pos c30] at H
                have c30b0 : decide (0 ≤ x5_2) = true := decide_eq_true c30
                clear c30
                have HC31 := Aside0.mk H
                clear H
                have hnb32 := NB143_144.out
                have hnc32 := NB144_143.out
                (try clear hcz15_0 hcz15_1 hcz15_2 hcz15_3 hcz15_4 hcz15_5 hfz15_0 hfz15_1 hfz15_2 hfz15_3 hfz15_4 hfz15_5)
                (try clear hcz18_0 hcz18_1 hcz18_2 hcz18_3 hcz18_4 hcz18_5 hfz18_0 hfz18_1 hfz18_2 hfz18_3 hfz18_4 hfz18_5)
                (try clear hcz21_0 hcz21_1 hcz21_2 hcz21_3 hcz21_4 hcz21_5 hfz21_0 hfz21_1 hfz21_2 hfz21_3 hfz21_4 hfz21_5)
                (try clear hcz23_0 hcz23_1 hcz23_2 hcz23_3 hcz23_4 hcz23_5 hfz23_0 hfz23_1 hfz23_2 hfz23_3 hfz23_4 hfz23_5)
                (try clear hcz25_0 hcz25_1 hcz25_2 hcz25_3 hcz25_4 hcz25_5 hfz25_0 hfz25_1 hfz25_2 hfz25_3 hfz25_4 hfz25_5)
                (try clear hcz28_0 hcz28_1 hcz28_2 hcz28_3 hcz28_4 hfz28_0 hfz28_1 hfz28_2 hfz28_3 hfz28_4)
                have hcz33_0 : wr.cell? ⟨gb143, 0, none⟩ = some (.int .i64 a0_0) := (blk_cell BK143.out 0).trans rfl
                have hcz33_1 : wr.cell? ⟨gb143, 1, none⟩ = some (.int .i64 a0_1) := (blk_cell BK143.out 1).trans rfl
                have hcz33_2 : wr.cell? ⟨gb143, 2, none⟩ = some (.int .i64 a0_2) := (blk_cell BK143.out 2).trans rfl
                have hcz33_3 : wr.cell? ⟨gb143, 3, none⟩ = some (.bool a0_3) := (blk_cell BK143.out 3).trans rfl
                have hcz33_4 : wr.cell? ⟨gb143, 4, none⟩ = some (.int .i64 a0_4) := (blk_cell BK143.out 4).trans rfl
                have hcz33_5 : wr.cell? ⟨gb143, 5, none⟩ = some (.slice A0_5 l0_5.length c0_5) := (blk_cell BK143.out 5).trans rfl
                have hfz33_0 := blk_frozen BK143.out 0
                have hfz33_1 := blk_frozen BK143.out 1
                have hfz33_2 := blk_frozen BK143.out 2
                have hfz33_3 := blk_frozen BK143.out 3
                have hfz33_4 := blk_frozen BK143.out 4
                have hfz33_5 := blk_frozen BK143.out 5
                have p147 : 0 ≤ (x5_2 : Int) := of_decide_eq_true (by first | (with_reducible assumption) | assumption)
                have q147 : x5_2 < (l0_5.length : Int) := of_decide_eq_true (by first | (with_reducible assumption) | assumption)
                obtain ⟨ad147, e147, hx147_0, hx147_1⟩ := at_T52 HR0_5.out x5_2 p147 q147
                cases e147
                replace hx147_0 := (HB.out.cell (World.block_lt_of_cell? w _ hx147_0)).trans hx147_0
                replace hx147_1 := (HB.out.cell (World.block_lt_of_cell? w _ hx147_1)).trans hx147_1
                replace p147 := eq_true p147
                replace q147 := eq_true q147
                go_upto_region 8 with (first | ((with_reducible refine gate_dst (N := 6) rfl ?_); (try (refine gate_guard (by rfl) ?_; dsimp only)); refine box_event ?hg (N := 6) ?hd (cs := #[.int .i64 0, .string (⟨#[]⟩ : ByteArray)]) (t := 52) ?hr ?_; (case hd => rfl); (case hg => rfl); (case hr => first | (go_simp; done) | (go_simp; rfl)); intro gb148 hg w34 hbox hb; have n0_ := Aside0.mk (blk_below (g := gb143) (o := .cells #[.int .i64 a0_0, .int .i64 a0_1, .int .i64 a0_2, .bool a0_3, .int .i64 a0_4, .slice (some ad147) l0_5.length c0_5] 24 (0, 0)) (by (with_reducible repeat (first | refine blk_drewN ?_ _ | refine blk_drew ?_ | refine blk_alloc ?_ _)); exact BK143.out) hb); have n1_ := Aside0.mk (blk_below (g := gb144) (o := .cells #[.string x145000_2, .int .i64 x145001_2, .int .i64 x145002_2, .int .i64 x145003_2, .string x145004_2] 26 (0, 0)) (by (with_reducible repeat (first | refine blk_drewN ?_ _ | refine blk_drew ?_ | refine blk_alloc ?_ _)); exact BK144.out) hb); have n2_ := Aside0.mk (below_step (by repeat (first | (with_reducible first | exact HB.out | apply below_alloc | apply pw_below_drewN | apply below_drew1 | refine below_set ?_ GE143.out | refine below_set ?_ GE144.out) | exact HB.out)) hb); have n3_ := Aside0.mk (hbox); have n4_ := Aside0.mk ((by rw [hg]; exact (below_size (by repeat (first | (with_reducible first | exact HB.out | apply below_alloc | apply pw_below_drewN | apply below_drew1 | refine below_set ?_ GE143.out | refine below_set ?_ GE144.out) | exact HB.out))) : w.heap.size ≤ gb148)); have n5_ := Aside0.mk ((by rw [hg]; exact (below_size (by repeat (first | (with_reducible first | exact HB.out | apply below_alloc | apply pw_below_drewN | apply below_drew1 | refine below_set ?_ GE143.out | refine below_set ?_ GE144.out) | exact HB.out))) : w.heap.size ≤ gb148)); have n6_ := Aside0.mk ((by rw [hg]; exact Nat.ne_of_lt (blk_lt (g := gb143) (o := .cells #[.int .i64 a0_0, .int .i64 a0_1, .int .i64 a0_2, .bool a0_3, .int .i64 a0_4, .slice (some ad147) l0_5.length c0_5] 24 (0, 0)) (by (with_reducible repeat (first | refine blk_drewN ?_ _ | refine blk_drew ?_ | refine blk_alloc ?_ _)); exact BK143.out)) : gb143 ≠ gb148)); have n7_ := Aside0.mk ((by rw [hg]; exact Nat.ne_of_gt (blk_lt (g := gb143) (o := .cells #[.int .i64 a0_0, .int .i64 a0_1, .int .i64 a0_2, .bool a0_3, .int .i64 a0_4, .slice (some ad147) l0_5.length c0_5] 24 (0, 0)) (by (with_reducible repeat (first | refine blk_drewN ?_ _ | refine blk_drew ?_ | refine blk_alloc ?_ _)); exact BK143.out)) : gb148 ≠ gb143)); have n8_ := Aside0.mk ((by rw [hg]; exact Nat.ne_of_lt (blk_lt (g := gb144) (o := .cells #[.string x145000_2, .int .i64 x145001_2, .int .i64 x145002_2, .int .i64 x145003_2, .string x145004_2] 26 (0, 0)) (by (with_reducible repeat (first | refine blk_drewN ?_ _ | refine blk_drew ?_ | refine blk_alloc ?_ _)); exact BK144.out)) : gb144 ≠ gb148)); have n9_ := Aside0.mk ((by rw [hg]; exact Nat.ne_of_gt (blk_lt (g := gb144) (o := .cells #[.string x145000_2, .int .i64 x145001_2, .int .i64 x145002_2, .int .i64 x145003_2, .string x145004_2] 26 (0, 0)) (by (with_reducible repeat (first | refine blk_drewN ?_ _ | refine blk_drew ?_ | refine blk_alloc ?_ _)); exact BK144.out)) : gb148 ≠ gb144)); clear BK143; clear BK144; clear HB; have BK143 := n0_; have BK144 := n1_; have HB := n2_; have BK148 := n3_; have GW148 := n4_; have GE148 := n5_; have NB143_148 := n6_; have NB148_143 := n7_; have NB144_148 := n8_; have NB148_144 := n9_; clear n0_ n1_ n2_ n3_ n4_ n5_ n6_ n7_ n8_ n9_; clear hb hbox hg; have hnb35 := NB148_143.out; have hnc35 := NB143_148.out; have hnb36 := NB148_144.out; have hnc36 := NB144_148.out; (try clear hcz18_0 hcz18_1 hcz18_2 hcz18_3 hcz18_4 hcz18_5 hfz18_0 hfz18_1 hfz18_2 hfz18_3 hfz18_4 hfz18_5); (try clear hcz21_0 hcz21_1 hcz21_2 hcz21_3 hcz21_4 hcz21_5 hfz21_0 hfz21_1 hfz21_2 hfz21_3 hfz21_4 hfz21_5); (try clear hcz23_0 hcz23_1 hcz23_2 hcz23_3 hcz23_4 hcz23_5 hfz23_0 hfz23_1 hfz23_2 hfz23_3 hfz23_4 hfz23_5); (try clear hcz25_0 hcz25_1 hcz25_2 hcz25_3 hcz25_4 hcz25_5 hfz25_0 hfz25_1 hfz25_2 hfz25_3 hfz25_4 hfz25_5); (try clear hcz28_0 hcz28_1 hcz28_2 hcz28_3 hcz28_4 hfz28_0 hfz28_1 hfz28_2 hfz28_3 hfz28_4); (try clear hcz33_0 hcz33_1 hcz33_2 hcz33_3 hcz33_4 hcz33_5 hfz33_0 hfz33_1 hfz33_2 hfz33_3 hfz33_4 hfz33_5); have hcz37_0 : w34.cell? ⟨gb148, 0, none⟩ = some (.int .i64 0) := (blk_cell BK148.out 0).trans rfl; have hcz37_1 : w34.cell? ⟨gb148, 1, none⟩ = some (.string (⟨#[]⟩ : ByteArray)) := (blk_cell BK148.out 1).trans rfl; have hfz37_0 := blk_frozen BK148.out 0; have hfz37_1 := blk_frozen BK148.out 1))
                (try simp only [Act.put, List.setIfInBounds_toArray, List.set_cons_zero, List.set_cons_succ])
                go_cut [68] (fun v68 wc => ∃ (kq : Nat) (x68_30 : Bool), v68 = .bool x68_30 ∧ Aside0 (wimpleref4_PutOpt.j2 kq x4_2 x5_2 x68_30 a0_0 a0_1 a0_2 a0_3 a0_4 l0_5 ((rd_T52 l0_5 x5_2).f0) ((rd_T52 l0_5 x5_2).f1) = some (r1, r2, r3, r4, r5, r6)) ∧ Aside0 (kq ≤ k2) ∧ Aside0 (wc.heap[gb143]? = some (.cells #[.int .i64 a0_0, .int .i64 a0_1, .int .i64 a0_2, .bool a0_3, .int .i64 a0_4, (.slice (some ad147) l0_5.length c0_5)] 24 (0, 0))) ∧ Aside0 (wc.heap[gb144]? = some (.cells #[.string x145000_2, .int .i64 x145001_2, .int .i64 x145002_2, .int .i64 x145003_2, .string x145004_2] 26 (0, 0))) ∧ Aside0 (wc.heap[gb148]? = some (.cells #[.int .i64 ((rd_T52 l0_5 x5_2).f0), .string ((rd_T52 l0_5 x5_2).f1)] 52 (0, 0))) ∧ Aside0 (Below w.heap.size w wc))
                case first =>
                  have H := HC31.out
                  clear HC31
                  replace H := Option.bind_eq_some_iff.mp H
                  obtain ⟨t149, A380, H⟩ := H
                  replace H : (if t149 = true then (if (((rd_T52 l0_5 x5_2).f1).size : Int) > 65535 then (wimpleref4_PutOpt.j2 k2 x4_2 x5_2 true a0_0 a0_1 a0_2 a0_3 a0_4 l0_5 ((rd_T52 l0_5 x5_2).f0) ((rd_T52 l0_5 x5_2).f1)) else (wimpleref4_PutOpt.j2 k2 x4_2 x5_2 (decide ((x4_2.size : Int) > 65535)) a0_0 a0_1 a0_2 a0_3 a0_4 l0_5 ((rd_T52 l0_5 x5_2).f0) ((rd_T52 l0_5 x5_2).f1))) else (wimpleref4_PutOpt.j2 k2 x4_2 x5_2 true a0_0 a0_1 a0_2 a0_3 a0_4 l0_5 ((rd_T52 l0_5 x5_2).f0) ((rd_T52 l0_5 x5_2).f1))) = some (r1, r2, r3, r4, r5, r6) := H
                  have A38 := Aside0.mk A380
                  clear A380
                  by_cases c39 : t149 = true
                  · subst c39
                    have H1 : (if (((rd_T52 l0_5 x5_2).f1).size : Int) > 65535 then (wimpleref4_PutOpt.j2 k2 x4_2 x5_2 true a0_0 a0_1 a0_2 a0_3 a0_4 l0_5 ((rd_T52 l0_5 x5_2).f0) ((rd_T52 l0_5 x5_2).f1)) else (wimpleref4_PutOpt.j2 k2 x4_2 x5_2 (decide ((x4_2.size : Int) > 65535)) a0_0 a0_1 a0_2 a0_3 a0_4 l0_5 ((rd_T52 l0_5 x5_2).f0) ((rd_T52 l0_5 x5_2).f1))) = some (r1, r2, r3, r4, r5, r6) := by rw [if_pos rfl] at H; exact H
                    clear H
                    have H := H1
                    clear H1
                    by_cases c40 : (((rd_T52 l0_5 x5_2).f1).size : Int) > 65535
                    · rw [if_pos c40] at H
                      have c40b0 : decide (65535 < (((rd_T52 l0_5 x5_2).f1).size : Int)) = true := decide_eq_true c40
                      have c40b1 : decide (65535 < ((rd_T52 l0_5 x5_2).f1).size) = true := decide_eq_true (by omega)
                      clear c40
                      (first | rw [c40b0] | (simp only [i64_w, i32_w]; rw [c40b0]) | skip)
                      have H' := Aside0.mk H
                      clear H
                      have hnb41 := NB148_143.out
                      have hnc41 := NB143_148.out
                      have hnb42 := NB148_144.out
                      have hnc42 := NB144_148.out
                      (try clear hcz21_0 hcz21_1 hcz21_2 hcz21_3 hcz21_4 hcz21_5 hfz21_0 hfz21_1 hfz21_2 hfz21_3 hfz21_4 hfz21_5)
                      (try clear hcz23_0 hcz23_1 hcz23_2 hcz23_3 hcz23_4 hcz23_5 hfz23_0 hfz23_1 hfz23_2 hfz23_3 hfz23_4 hfz23_5)
                      (try clear hcz25_0 hcz25_1 hcz25_2 hcz25_3 hcz25_4 hcz25_5 hfz25_0 hfz25_1 hfz25_2 hfz25_3 hfz25_4 hfz25_5)
                      (try clear hcz28_0 hcz28_1 hcz28_2 hcz28_3 hcz28_4 hfz28_0 hfz28_1 hfz28_2 hfz28_3 hfz28_4)
                      (try clear hcz33_0 hcz33_1 hcz33_2 hcz33_3 hcz33_4 hcz33_5 hfz33_0 hfz33_1 hfz33_2 hfz33_3 hfz33_4 hfz33_5)
                      have hcz43_0 : w34.cell? ⟨gb148, 0, none⟩ = some (.int .i64 0) := (blk_cell BK148.out 0).trans rfl
                      have hcz43_1 : w34.cell? ⟨gb148, 1, none⟩ = some (.string (⟨#[]⟩ : ByteArray)) := (blk_cell BK148.out 1).trans rfl
                      have hfz43_0 := blk_frozen BK148.out 0
                      have hfz43_1 := blk_frozen BK148.out 1
                      go_wp2_with (first | ((with_reducible refine gate_dst (N := 56) rfl ?_); (try (refine gate_guard (by rfl) ?_; dsimp only)); (with_reducible refine gate_callee (f := 48) rfl ?_); refine goesL_ (some 56) rfl rfl Try.func48 (by kernel_rfl) rfl #[.int .i64 ((rd_T52 l0_5 x5_2).f0)] rfl (by (try simp only [List.map_toArray, List.map_cons, List.map_nil]); first | done | rfl | (simp only [List.length_drop, List.length_take]; rfl)) ?_; (with_reducible refine (wimpleref4_short.calls ((rd_T52 l0_5 x5_2).f0) true _ A38.out).mono ?_); rintro e w' ⟨rfl, ⟨nd, rfl⟩⟩; refine ⟨_, rfl, ?_⟩))
                      go_meet
                      case rel => exact ⟨_, (true), (by first | rfl | (simp; done) | (simp [*]; done)), H', ⟨by have := HJ1.out; have := HK2.out; first | omega | exact Nat.le_refl _⟩, ⟨by (with_reducible repeat (first | refine blk_drewN ?_ _ | refine blk_drew ?_ | refine blk_alloc ?_ _)); refine blk_far ?_ NB143_148.out _; (with_reducible repeat (first | refine blk_drewN ?_ _ | refine blk_drew ?_ | refine blk_alloc ?_ _)); refine blk_far ?_ NB143_148.out _; (with_reducible repeat (first | refine blk_drewN ?_ _ | refine blk_drew ?_ | refine blk_alloc ?_ _)); exact BK143.out⟩, ⟨by (with_reducible repeat (first | refine blk_drewN ?_ _ | refine blk_drew ?_ | refine blk_alloc ?_ _)); refine blk_far ?_ NB144_148.out _; (with_reducible repeat (first | refine blk_drewN ?_ _ | refine blk_drew ?_ | refine blk_alloc ?_ _)); refine blk_far ?_ NB144_148.out _; (with_reducible repeat (first | refine blk_drewN ?_ _ | refine blk_drew ?_ | refine blk_alloc ?_ _)); exact BK144.out⟩, ⟨by (with_reducible repeat (first | refine blk_drewN ?_ _ | refine blk_drew ?_ | refine blk_alloc ?_ _)); refine blk_put (cs := #[.int .i64 ((rd_T52 l0_5 x5_2).f0), .string (⟨#[]⟩ : ByteArray)]) ?_ 1 _ rfl; (with_reducible repeat (first | refine blk_drewN ?_ _ | refine blk_drew ?_ | refine blk_alloc ?_ _)); refine blk_put (cs := #[.int .i64 0, .string (⟨#[]⟩ : ByteArray)]) ?_ 0 _ rfl; (with_reducible repeat (first | refine blk_drewN ?_ _ | refine blk_drew ?_ | refine blk_alloc ?_ _)); exact BK148.out⟩, ⟨by repeat (first | (with_reducible first | exact HB.out | apply below_alloc | apply pw_below_drewN | apply below_drew1 | refine below_set ?_ GE143.out | refine below_set ?_ GE144.out | refine below_set ?_ GE148.out) | exact HB.out)⟩⟩
                    · rw [if_neg c40] at H
                      have c40b0 : decide (65535 < (((rd_T52 l0_5 x5_2).f1).size : Int)) = false := decide_eq_false c40
                      have c40b1 : decide (65535 < ((rd_T52 l0_5 x5_2).f1).size) = false := decide_eq_false (by omega)
                      clear c40
                      (first | rw [c40b0] | (simp only [i64_w, i32_w]; rw [c40b0]) | skip)
                      have H' := Aside0.mk H
                      clear H
                      have hnb44 := NB148_143.out
                      have hnc44 := NB143_148.out
                      have hnb45 := NB148_144.out
                      have hnc45 := NB144_148.out
                      (try clear hcz23_0 hcz23_1 hcz23_2 hcz23_3 hcz23_4 hcz23_5 hfz23_0 hfz23_1 hfz23_2 hfz23_3 hfz23_4 hfz23_5)
                      (try clear hcz25_0 hcz25_1 hcz25_2 hcz25_3 hcz25_4 hcz25_5 hfz25_0 hfz25_1 hfz25_2 hfz25_3 hfz25_4 hfz25_5)
                      (try clear hcz28_0 hcz28_1 hcz28_2 hcz28_3 hcz28_4 hfz28_0 hfz28_1 hfz28_2 hfz28_3 hfz28_4)
                      (try clear hcz33_0 hcz33_1 hcz33_2 hcz33_3 hcz33_4 hcz33_5 hfz33_0 hfz33_1 hfz33_2 hfz33_3 hfz33_4 hfz33_5)
                      have hcz46_0 : w34.cell? ⟨gb148, 0, none⟩ = some (.int .i64 0) := (blk_cell BK148.out 0).trans rfl
                      have hcz46_1 : w34.cell? ⟨gb148, 1, none⟩ = some (.string (⟨#[]⟩ : ByteArray)) := (blk_cell BK148.out 1).trans rfl
                      have hfz46_0 := blk_frozen BK148.out 0
                      have hfz46_1 := blk_frozen BK148.out 1
                      go_wp2_with (first | ((with_reducible refine gate_dst (N := 56) rfl ?_); (try (refine gate_guard (by rfl) ?_; dsimp only)); (with_reducible refine gate_callee (f := 48) rfl ?_); refine goesL_ (some 56) rfl rfl Try.func48 (by kernel_rfl) rfl #[.int .i64 ((rd_T52 l0_5 x5_2).f0)] rfl (by (try simp only [List.map_toArray, List.map_cons, List.map_nil]); first | done | rfl | (simp only [List.length_drop, List.length_take]; rfl)) ?_; (with_reducible refine (wimpleref4_short.calls ((rd_T52 l0_5 x5_2).f0) true _ A38.out).mono ?_); rintro e w' ⟨rfl, ⟨nd, rfl⟩⟩; refine ⟨_, rfl, ?_⟩))
                      go_meet
                      case rel => exact ⟨_, (decide ((x4_2.size : Int) > 65535)), (by first | rfl | (simp; done) | (simp [*]; done)), H', ⟨by have := HJ1.out; have := HK2.out; first | omega | exact Nat.le_refl _⟩, ⟨by (with_reducible repeat (first | refine blk_drewN ?_ _ | refine blk_drew ?_ | refine blk_alloc ?_ _)); refine blk_far ?_ NB143_148.out _; (with_reducible repeat (first | refine blk_drewN ?_ _ | refine blk_drew ?_ | refine blk_alloc ?_ _)); refine blk_far ?_ NB143_148.out _; (with_reducible repeat (first | refine blk_drewN ?_ _ | refine blk_drew ?_ | refine blk_alloc ?_ _)); exact BK143.out⟩, ⟨by (with_reducible repeat (first | refine blk_drewN ?_ _ | refine blk_drew ?_ | refine blk_alloc ?_ _)); refine blk_far ?_ NB144_148.out _; (with_reducible repeat (first | refine blk_drewN ?_ _ | refine blk_drew ?_ | refine blk_alloc ?_ _)); refine blk_far ?_ NB144_148.out _; (with_reducible repeat (first | refine blk_drewN ?_ _ | refine blk_drew ?_ | refine blk_alloc ?_ _)); exact BK144.out⟩, ⟨by (with_reducible repeat (first | refine blk_drewN ?_ _ | refine blk_drew ?_ | refine blk_alloc ?_ _)); refine blk_put (cs := #[.int .i64 ((rd_T52 l0_5 x5_2).f0), .string (⟨#[]⟩ : ByteArray)]) ?_ 1 _ rfl; (with_reducible repeat (first | refine blk_drewN ?_ _ | refine blk_drew ?_ | refine blk_alloc ?_ _)); refine blk_put (cs := #[.int .i64 0, .string (⟨#[]⟩ : ByteArray)]) ?_ 0 _ rfl; (with_reducible repeat (first | refine blk_drewN ?_ _ | refine blk_drew ?_ | refine blk_alloc ?_ _)); exact BK148.out⟩, ⟨by repeat (first | (with_reducible first | exact HB.out | apply below_alloc | apply pw_below_drewN | apply below_drew1 | refine below_set ?_ GE143.out | refine below_set ?_ GE144.out | refine below_set ?_ GE148.out) | exact HB.out)⟩⟩
                  · replace c39 := Bool.eq_false_iff.mpr c39
                    subst c39
                    have H1 : (wimpleref4_PutOpt.j2 k2 x4_2 x5_2 true a0_0 a0_1 a0_2 a0_3 a0_4 l0_5 ((rd_T52 l0_5 x5_2).f0) ((rd_T52 l0_5 x5_2).f1)) = some (r1, r2, r3, r4, r5, r6) := by rw [if_neg (show ¬ (false = true) by decide)] at H; exact H
                    clear H
                    have H := H1
                    clear H1
                    have H' := Aside0.mk H
                    clear H
                    have hnb47 := NB148_143.out
                    have hnc47 := NB143_148.out
                    have hnb48 := NB148_144.out
                    have hnc48 := NB144_148.out
                    (try clear hcz25_0 hcz25_1 hcz25_2 hcz25_3 hcz25_4 hcz25_5 hfz25_0 hfz25_1 hfz25_2 hfz25_3 hfz25_4 hfz25_5)
                    (try clear hcz28_0 hcz28_1 hcz28_2 hcz28_3 hcz28_4 hfz28_0 hfz28_1 hfz28_2 hfz28_3 hfz28_4)
                    (try clear hcz33_0 hcz33_1 hcz33_2 hcz33_3 hcz33_4 hcz33_5 hfz33_0 hfz33_1 hfz33_2 hfz33_3 hfz33_4 hfz33_5)
                    have hcz49_0 : w34.cell? ⟨gb148, 0, none⟩ = some (.int .i64 0) := (blk_cell BK148.out 0).trans rfl
                    have hcz49_1 : w34.cell? ⟨gb148, 1, none⟩ = some (.string (⟨#[]⟩ : ByteArray)) := (blk_cell BK148.out 1).trans rfl
                    have hfz49_0 := blk_frozen BK148.out 0
                    have hfz49_1 := blk_frozen BK148.out 1
                    go_wp2_with (first | ((with_reducible refine gate_dst (N := 56) rfl ?_); (try (refine gate_guard (by rfl) ?_; dsimp only)); (with_reducible refine gate_callee (f := 48) rfl ?_); refine goesL_ (some 56) rfl rfl Try.func48 (by kernel_rfl) rfl #[.int .i64 ((rd_T52 l0_5 x5_2).f0)] rfl (by (try simp only [List.map_toArray, List.map_cons, List.map_nil]); first | done | rfl | (simp only [List.length_drop, List.length_take]; rfl)) ?_; (with_reducible refine (wimpleref4_short.calls ((rd_T52 l0_5 x5_2).f0) false _ A38.out).mono ?_); rintro e w' ⟨rfl, ⟨nd, rfl⟩⟩; refine ⟨_, rfl, ?_⟩))
                    go_meet
                    case rel => exact ⟨_, (true), (by first | rfl | (simp; done) | (simp [*]; done)), H', ⟨by have := HJ1.out; have := HK2.out; first | omega | exact Nat.le_refl _⟩, ⟨by (with_reducible repeat (first | refine blk_drewN ?_ _ | refine blk_drew ?_ | refine blk_alloc ?_ _)); refine blk_far ?_ NB143_148.out _; (with_reducible repeat (first | refine blk_drewN ?_ _ | refine blk_drew ?_ | refine blk_alloc ?_ _)); refine blk_far ?_ NB143_148.out _; (with_reducible repeat (first | refine blk_drewN ?_ _ | refine blk_drew ?_ | refine blk_alloc ?_ _)); exact BK143.out⟩, ⟨by (with_reducible repeat (first | refine blk_drewN ?_ _ | refine blk_drew ?_ | refine blk_alloc ?_ _)); refine blk_far ?_ NB144_148.out _; (with_reducible repeat (first | refine blk_drewN ?_ _ | refine blk_drew ?_ | refine blk_alloc ?_ _)); refine blk_far ?_ NB144_148.out _; (with_reducible repeat (first | refine blk_drewN ?_ _ | refine blk_drew ?_ | refine blk_alloc ?_ _)); exact BK144.out⟩, ⟨by (with_reducible repeat (first | refine blk_drewN ?_ _ | refine blk_drew ?_ | refine blk_alloc ?_ _)); refine blk_put (cs := #[.int .i64 ((rd_T52 l0_5 x5_2).f0), .string (⟨#[]⟩ : ByteArray)]) ?_ 1 _ rfl; (with_reducible repeat (first | refine blk_drewN ?_ _ | refine blk_drew ?_ | refine blk_alloc ?_ _)); refine blk_put (cs := #[.int .i64 0, .string (⟨#[]⟩ : ByteArray)]) ?_ 0 _ rfl; (with_reducible repeat (first | refine blk_drewN ?_ _ | refine blk_drew ?_ | refine blk_alloc ?_ _)); exact BK148.out⟩, ⟨by repeat (first | (with_reducible first | exact HB.out | apply below_alloc | apply pw_below_drewN | apply below_drew1 | refine below_set ?_ GE143.out | refine below_set ?_ GE144.out | refine below_set ?_ GE148.out) | exact HB.out)⟩⟩
                case rest =>
                  clear HC31
                  try clear c1
                  try clear p1
                  try clear q1
                  try clear hx1
                  try clear c2
                  try clear p2
                  try clear c3
                  try clear c4
                  try clear c6
                  try clear c7
                  try clear c7b0
                  try clear c8
                  try clear c10
                  try clear c10b0
                  try clear c11
                  try clear c13
                  try clear c13b0
                  try clear c14
                  try clear p14
                  try clear q14
                  try clear hx14
                  try clear c15
                  try clear c16
                  try clear c16b0
                  try clear c17
                  try clear c19
                  try clear c19b0
                  try clear c20
                  try clear c22
                  try clear c24
                  try clear c26
                  try clear c27
                  try clear c29
                  try clear c29b0
                  try clear c30
                  try clear c30b0
                  try clear c32
                  try clear c35
                  try clear c36
                  try clear c39
                  try clear c40
                  try clear c40b0
                  try clear c40b1
                  try clear c41
                  try clear c42
                  try clear c44
                  try clear c45
                  try clear c47
                  try clear c48
                  try clear hcz12_0
                  try clear hcz12_1
                  try clear hcz12_2
                  try clear hcz12_3
                  try clear hcz12_4
                  try clear hcz12_5
                  try clear hcz15_0
                  try clear hcz15_1
                  try clear hcz15_2
                  try clear hcz15_3
                  try clear hcz15_4
                  try clear hcz15_5
                  try clear hcz18_0
                  try clear hcz18_1
                  try clear hcz18_2
                  try clear hcz18_3
                  try clear hcz18_4
                  try clear hcz18_5
                  try clear hcz21_0
                  try clear hcz21_1
                  try clear hcz21_2
                  try clear hcz21_3
                  try clear hcz21_4
                  try clear hcz21_5
                  try clear hcz23_0
                  try clear hcz23_1
                  try clear hcz23_2
                  try clear hcz23_3
                  try clear hcz23_4
                  try clear hcz23_5
                  try clear hcz25_0
                  try clear hcz25_1
                  try clear hcz25_2
                  try clear hcz25_3
                  try clear hcz25_4
                  try clear hcz25_5
                  try clear hcz28_0
                  try clear hcz28_1
                  try clear hcz28_2
                  try clear hcz28_3
                  try clear hcz28_4
                  try clear hcz33_0
                  try clear hcz33_1
                  try clear hcz33_2
                  try clear hcz33_3
                  try clear hcz33_4
                  try clear hcz33_5
                  try clear hcz37_0
                  try clear hcz37_1
                  try clear hcz43_0
                  try clear hcz43_1
                  try clear hcz44_0
                  try clear hcz44_1
                  try clear hcz44_2
                  try clear hcz44_3
                  try clear hcz44_4
                  try clear hcz46_0
                  try clear hcz46_1
                  try clear hcz49_0
                  try clear hcz49_1
                  try clear hcz59_0
                  try clear hcz59_1
                  try clear hcz59_2
                  try clear hcz59_3
                  try clear hcz59_4
                  try clear hcz68_0
                  try clear hcz68_1
                  try clear hcz68_2
                  try clear hcz68_3
                  try clear hcz68_4
                  try clear hcz68_5
                  try clear hcz70_0
                  try clear hcz70_1
                  try clear hcz70_2
                  try clear hcz70_3
                  try clear hcz70_4
                  try clear hcz72_0
                  try clear hcz72_1
                  try clear hcz72_2
                  try clear hcz72_3
                  try clear hcz72_4
                  try clear hcz72_5
                  try clear hcz74_0
                  try clear hcz74_1
                  try clear hcz74_2
                  try clear hcz74_3
                  try clear hcz74_4
                  try clear hcz9_0
                  try clear hcz9_1
                  try clear hcz9_2
                  try clear hcz9_3
                  try clear hcz9_4
                  try clear hcz9_5
                  try clear hfz12_0
                  try clear hfz12_1
                  try clear hfz12_2
                  try clear hfz12_3
                  try clear hfz12_4
                  try clear hfz12_5
                  try clear hfz15_0
                  try clear hfz15_1
                  try clear hfz15_2
                  try clear hfz15_3
                  try clear hfz15_4
                  try clear hfz15_5
                  try clear hfz18_0
                  try clear hfz18_1
                  try clear hfz18_2
                  try clear hfz18_3
                  try clear hfz18_4
                  try clear hfz18_5
                  try clear hfz21_0
                  try clear hfz21_1
                  try clear hfz21_2
                  try clear hfz21_3
                  try clear hfz21_4
                  try clear hfz21_5
                  try clear hfz23_0
                  try clear hfz23_1
                  try clear hfz23_2
                  try clear hfz23_3
                  try clear hfz23_4
                  try clear hfz23_5
                  try clear hfz25_0
                  try clear hfz25_1
                  try clear hfz25_2
                  try clear hfz25_3
                  try clear hfz25_4
                  try clear hfz25_5
                  try clear hfz28_0
                  try clear hfz28_1
                  try clear hfz28_2
                  try clear hfz28_3
                  try clear hfz28_4
                  try clear hfz33_0
                  try clear hfz33_1
                  try clear hfz33_2
                  try clear hfz33_3
                  try clear hfz33_4
                  try clear hfz33_5
                  try clear hfz37_0
                  try clear hfz37_1
                  try clear hfz43_0
                  try clear hfz43_1
                  try clear hfz44_0
                  try clear hfz44_1
                  try clear hfz44_2
                  try clear hfz44_3
                  try clear hfz44_4
                  try clear hfz46_0
                  try clear hfz46_1
                  try clear hfz49_0
                  try clear hfz49_1
                  try clear hfz59_0
                  try clear hfz59_1
                  try clear hfz59_2
                  try clear hfz59_3
                  try clear hfz59_4
                  try clear hfz68_0
                  try clear hfz68_1
                  try clear hfz68_2
                  try clear hfz68_3
                  try clear hfz68_4
                  try clear hfz68_5
                  try clear hfz70_0
                  try clear hfz70_1
                  try clear hfz70_2
                  try clear hfz70_3
                  try clear hfz70_4
                  try clear hfz72_0
                  try clear hfz72_1
                  try clear hfz72_2
                  try clear hfz72_3
                  try clear hfz72_4
                  try clear hfz72_5
                  try clear hfz74_0
                  try clear hfz74_1
                  try clear hfz74_2
                  try clear hfz74_3
                  try clear hfz74_4
                  try clear hfz9_0
                  try clear hfz9_1
                  try clear hfz9_2
                  try clear hfz9_3
                  try clear hfz9_4
                  try clear hfz9_5
                  try clear hx147_0
                  try clear hx147_1
                  try clear p147
                  try clear p2
                  try clear q147
                  obtain ⟨kq, x68_30, rfl, HA, HJ30, BK143, BK144, BK148, HB⟩ := hcut
                  cases kq with
                  | zero => exact absurd HA.out (by simp [wimpleref4_PutOpt.j2])
                  | succ kj30 =>
                    have H := HA.out
                    clear HA
                    simp only [wimpleref4_PutOpt.j2] at H
                    by_cases c50 : x68_30 = true
                    · subst c50
                      have H1 : (some ((⟨#[]⟩ : ByteArray), 0, 0, 0, (⟨#[]⟩ : ByteArray), 800)) = some (r1, r2, r3, r4, r5, r6) := by rw [if_pos rfl] at H; exact H
                      clear H
                      have H := H1
                      clear H1
                      simp only [Option.some.injEq, Prod.mk.injEq] at H
                      obtain ⟨rfl, rfl, rfl, rfl, rfl, rfl⟩ := H
                      have hnb51 := NB144_143.out
                      have hnc51 := NB143_144.out
                      have hnb52 := NB144_148.out
                      have hnc52 := NB148_144.out
                      (try clear hcz33_0 hcz33_1 hcz33_2 hcz33_3 hcz33_4 hcz33_5 hfz33_0 hfz33_1 hfz33_2 hfz33_3 hfz33_4 hfz33_5)
                      (try clear hcz37_0 hcz37_1 hfz37_0 hfz37_1)
                      (try clear hcz43_0 hcz43_1 hfz43_0 hfz43_1)
                      (try clear hcz46_0 hcz46_1 hfz46_0 hfz46_1)
                      (try clear hcz49_0 hcz49_1 hfz49_0 hfz49_1)
                      have hcz53_0 : wc.cell? ⟨gb144, 0, none⟩ = some (.string x145000_2) := (blk_cell BK144.out 0).trans rfl
                      have hcz53_1 : wc.cell? ⟨gb144, 1, none⟩ = some (.int .i64 x145001_2) := (blk_cell BK144.out 1).trans rfl
                      have hcz53_2 : wc.cell? ⟨gb144, 2, none⟩ = some (.int .i64 x145002_2) := (blk_cell BK144.out 2).trans rfl
                      have hcz53_3 : wc.cell? ⟨gb144, 3, none⟩ = some (.int .i64 x145003_2) := (blk_cell BK144.out 3).trans rfl
                      have hcz53_4 : wc.cell? ⟨gb144, 4, none⟩ = some (.string x145004_2) := (blk_cell BK144.out 4).trans rfl
                      have hfz53_0 := blk_frozen BK144.out 0
                      have hfz53_1 := blk_frozen BK144.out 1
                      have hfz53_2 := blk_frozen BK144.out 2
                      have hfz53_3 := blk_frozen BK144.out 3
                      have hfz53_4 := blk_frozen BK144.out 4
                      go_wp2
                      refine bodyPost_ret (results_ct rfl _ _ gb144 26 #[.string (⟨#[]⟩ : ByteArray), .int .i64 0, .int .i64 0, .int .i64 0, .string (⟨#[]⟩ : ByteArray)] (0, 0) _ rfl (by (with_reducible repeat (first | refine blk_drewN ?_ _ | refine blk_drew ?_ | refine blk_alloc ?_ _)); refine blk_put (cs := #[.string (⟨#[]⟩ : ByteArray), .int .i64 0, .int .i64 0, .int .i64 0, .string x145004_2]) ?_ 4 _ rfl; (with_reducible repeat (first | refine blk_drewN ?_ _ | refine blk_drew ?_ | refine blk_alloc ?_ _)); refine blk_put (cs := #[.string (⟨#[]⟩ : ByteArray), .int .i64 0, .int .i64 0, .int .i64 x145003_2, .string x145004_2]) ?_ 3 _ rfl; (with_reducible repeat (first | refine blk_drewN ?_ _ | refine blk_drew ?_ | refine blk_alloc ?_ _)); refine blk_put (cs := #[.string (⟨#[]⟩ : ByteArray), .int .i64 0, .int .i64 x145002_2, .int .i64 x145003_2, .string x145004_2]) ?_ 2 _ rfl; (with_reducible repeat (first | refine blk_drewN ?_ _ | refine blk_drew ?_ | refine blk_alloc ?_ _)); refine blk_put (cs := #[.string (⟨#[]⟩ : ByteArray), .int .i64 x145001_2, .int .i64 x145002_2, .int .i64 x145003_2, .string x145004_2]) ?_ 1 _ rfl; (with_reducible repeat (first | refine blk_drewN ?_ _ | refine blk_drew ?_ | refine blk_alloc ?_ _)); refine blk_put (cs := #[.string x145000_2, .int .i64 x145001_2, .int .i64 x145002_2, .int .i64 x145003_2, .string x145004_2]) ?_ 0 _ rfl; (with_reducible repeat (first | refine blk_drewN ?_ _ | refine blk_drew ?_ | refine blk_alloc ?_ _)); exact BK144.out) Try.underlying26 rfl (by kernel_rfl)) rfl ?_
                      exact ⟨by first | rfl | (simp [errW_none, errW_some] <;> rfl) | (simp [*, errW_none, errW_some] <;> rfl), by repeat (first | (with_reducible first | exact HB.out | apply below_alloc | apply pw_below_drewN | apply below_drew1 | refine below_set ?_ GE143.out | refine below_set ?_ GE144.out | refine below_set ?_ GE148.out) | exact HB.out)⟩
                    · replace c50 := Bool.eq_false_iff.mpr c50
                      subst c50
                      have H1 : ((wimpleref1_Be.f kj30 ((rd_T52 l0_5 x5_2).f0) 2).bind fun t150 => (if x4_2.size + t150.size ≤ 9223372036854775807 then ((wimpleref1_Be.f kj30 (((rd_T52 l0_5 x5_2).f1).size : Int) 2).bind fun t151 => (if (x4_2 ++ t150).size + t151.size ≤ 9223372036854775807 then (if ((x4_2 ++ t150) ++ t151).size + ((rd_T52 l0_5 x5_2).f1).size ≤ 9223372036854775807 then (wimpleref4_PutOpt.l0 kj30 (((x4_2 ++ t150) ++ t151) ++ ((rd_T52 l0_5 x5_2).f1)) (wrap64 (x5_2 + 1)) a0_0 a0_1 a0_2 a0_3 a0_4 l0_5) else (none)) else (none))) else (none))) = some (r1, r2, r3, r4, r5, r6) := by rw [if_neg (show ¬ (false = true) by decide)] at H; exact H
                      clear H
                      have H := H1
                      clear H1
                      replace H := Option.bind_eq_some_iff.mp H
                      obtain ⟨t150, A540, H⟩ := H
                      replace H : (if x4_2.size + t150.size ≤ 9223372036854775807 then ((wimpleref1_Be.f kj30 (((rd_T52 l0_5 x5_2).f1).size : Int) 2).bind fun t151 => (if (x4_2 ++ t150).size + t151.size ≤ 9223372036854775807 then (if ((x4_2 ++ t150) ++ t151).size + ((rd_T52 l0_5 x5_2).f1).size ≤ 9223372036854775807 then (wimpleref4_PutOpt.l0 kj30 (((x4_2 ++ t150) ++ t151) ++ ((rd_T52 l0_5 x5_2).f1)) (wrap64 (x5_2 + 1)) a0_0 a0_1 a0_2 a0_3 a0_4 l0_5) else (none)) else (none))) else (none)) = some (r1, r2, r3, r4, r5, r6) := H
                      have A54 := Aside0.mk A540
                      clear A540
                      by_cases c55 : x4_2.size + t150.size ≤ 9223372036854775807
                      · rw [if_pos c55] at H
                        have c55b0 := eq_true c55
                        have c55b1 : decide (x4_2.size + t150.size ≤ 9223372036854775807) = true := decide_eq_true c55
                        try have c55b2 : (9223372036854775807 < x4_2.size + t150.size) = False := eq_false (Nat.not_lt.2 c55)
                        replace H := Option.bind_eq_some_iff.mp H
                        obtain ⟨t151, A560, H⟩ := H
                        replace H : (if (x4_2 ++ t150).size + t151.size ≤ 9223372036854775807 then (if ((x4_2 ++ t150) ++ t151).size + ((rd_T52 l0_5 x5_2).f1).size ≤ 9223372036854775807 then (wimpleref4_PutOpt.l0 kj30 (((x4_2 ++ t150) ++ t151) ++ ((rd_T52 l0_5 x5_2).f1)) (wrap64 (x5_2 + 1)) a0_0 a0_1 a0_2 a0_3 a0_4 l0_5) else (none)) else (none)) = some (r1, r2, r3, r4, r5, r6) := H
                        have A56 := Aside0.mk A560
                        clear A560
                        by_cases c57 : (x4_2 ++ t150).size + t151.size ≤ 9223372036854775807
                        · rw [if_pos c57] at H
                          have c57b0 := eq_true c57
                          have c57b1 : decide ((x4_2 ++ t150).size + t151.size ≤ 9223372036854775807) = true := decide_eq_true c57
                          try have c57b2 : (9223372036854775807 < (x4_2 ++ t150).size + t151.size) = False := eq_false (Nat.not_lt.2 c57)
                          try (have c57b3 := c57; simp only [ByteArray.size_append] at c57b3; replace c57b3 := eq_false (Nat.not_lt.2 c57b3))
                          by_cases c58 : ((x4_2 ++ t150) ++ t151).size + ((rd_T52 l0_5 x5_2).f1).size ≤ 9223372036854775807
                          · rw [if_pos c58] at H
                            have c58b0 := eq_true c58
                            have c58b1 : decide (((x4_2 ++ t150) ++ t151).size + ((rd_T52 l0_5 x5_2).f1).size ≤ 9223372036854775807) = true := decide_eq_true c58
                            try have c58b2 : (9223372036854775807 < ((x4_2 ++ t150) ++ t151).size + ((rd_T52 l0_5 x5_2).f1).size) = False := eq_false (Nat.not_lt.2 c58)
                            try (have c58b3 := c58; simp only [ByteArray.size_append] at c58b3; replace c58b3 := eq_false (Nat.not_lt.2 c58b3))
                            have H' := Aside0.mk H
                            clear H
                            try go_wp2
                            have n0_ := Aside0.mk (blk_drew BK143.out)
                            have n1_ := Aside0.mk (blk_drew BK144.out)
                            have n2_ := Aside0.mk (blk_drew BK148.out)
                            have n3_ := Aside0.mk (below_drew1 HB.out)
                            clear BK143
                            clear BK144
                            clear BK148
                            clear HB
                            have BK143 := n0_
                            have BK144 := n1_
                            have BK148 := n2_
                            have HB := n3_
                            clear n0_ n1_ n2_ n3_
                            refine start_ (n := 14) (S := fun w' => w'.cell? ⟨gb148, 0, none⟩ = some (.int .i64 ((rd_T52 l0_5 x5_2).f0)) ∧ w'.cell? ⟨gb148, 1, none⟩ = some (.string ((rd_T52 l0_5 x5_2).f1))) (ds := []) #[false, false, false, false, false, false, false, false, false, false, false, false, false, false] (by kernel_rfl) rfl rfl ⟨(blk_cell BK148.out 0).trans rfl, (blk_cell BK148.out 1).trans rfl⟩ (fun hHeld => ?_); refine with_tabW wimpleref4_PutOpt.tab10 wimpleref4_PutOpt.bits10 (fun HT_ HW_ => ?_)
                            generalize wc.drew = w59 at BK143 BK144 BK148 HB hHeld ⊢
                            refine pure_ (i := 0) (N := some 70) (v := ?_) (a' := ?_) #[true, false, false, false, false, false, false, false, false, false, false, false, false, false] rfl rfl (any_of HT_.out (by kernel_rfl)) (fun _ _ _ h => h) (Or.inl ⟨by rfl, ?_⟩) ?_ ?_
                            rotate_left
                            · intro w'
                              go_simp
                              with_reducible rfl
                            rotate_left
                            · simp only [Act.put, List.setIfInBounds_toArray, List.set_cons_zero, List.set_cons_succ, i64_w, i32_w]
                              rfl
                            refine pure_ (i := 1) (N := some 71) (v := ?_) (a' := ?_) #[true, true, false, false, false, false, false, false, false, false, false, false, false, false] rfl rfl (any_of HT_.out (by kernel_rfl)) (fun _ _ _ h => h) (Or.inl ⟨by rfl, ?_⟩) ?_ ?_
                            rotate_left
                            · intro w'
                              go_simp
                              with_reducible rfl
                            rotate_left
                            · simp only [Act.put, List.setIfInBounds_toArray, List.set_cons_zero, List.set_cons_succ, i64_w, i32_w]
                              rfl
                            refine pure_ (i := 5) (N := some 75) (v := ?_) (a' := ?_) #[true, true, false, false, false, true, false, false, false, false, false, false, false, false] rfl rfl (any_of HT_.out (by kernel_rfl)) (fun _ _ _ h => h) (Or.inl ⟨by rfl, ?_⟩) ?_ ?_
                            rotate_left
                            · intro w'
                              go_simp
                              with_reducible rfl
                            rotate_left
                            · simp only [Act.put, List.setIfInBounds_toArray, List.set_cons_zero, List.set_cons_succ, i64_w, i32_w]
                              rfl
                            refine pure_ (i := 10) (N := some 80) (v := ?_) (a' := ?_) #[true, true, false, false, false, true, false, false, false, false, true, false, false, false] rfl rfl (any_of HT_.out (by kernel_rfl)) (fun _ _ _ h => h) (Or.inl ⟨by rfl, ?_⟩) ?_ ?_
                            rotate_left
                            · intro w'
                              go_simp
                              with_reducible rfl
                            rotate_left
                            · simp only [Act.put, List.setIfInBounds_toArray, List.set_cons_zero, List.set_cons_succ, i64_w, i32_w]
                              rfl
                            refine take_ (i := 2) (N := some 72) (v := ?_) (a' := ?_) #[true, true, true, false, false, true, false, false, false, false, true, false, false, false] rfl rfl (take_ofW HT_.out HW_.out (by kernel_rfl)) (fun _ _ _ h => h) (Or.inl ⟨by rfl, ?_⟩) hHeld ?_ ?_
                            rotate_left
                            · rintro w' ⟨s0, s1⟩
                              go_simp
                              with_reducible rfl
                            rotate_left
                            · simp only [Act.put, List.setIfInBounds_toArray, List.set_cons_zero, List.set_cons_succ, i64_w, i32_w]
                              rfl
                            refine take_ (i := 6) (N := some 76) (v := ?_) (a' := ?_) #[true, true, true, false, false, true, true, false, false, false, true, false, false, false] rfl rfl (take_ofW HT_.out HW_.out (by kernel_rfl)) (fun _ _ _ h => h) (Or.inl ⟨by rfl, ?_⟩) hHeld ?_ ?_
                            rotate_left
                            · rintro w' ⟨s0, s1⟩
                              go_simp
                              with_reducible rfl
                            rotate_left
                            · simp only [Act.put, List.setIfInBounds_toArray, List.set_cons_zero, List.set_cons_succ, i64_w, i32_w]
                              rfl
                            refine pure_ (i := 7) (N := some 77) (v := ?_) (a' := ?_) #[true, true, true, false, false, true, true, true, false, false, true, false, false, false] rfl rfl (any_of HT_.out (by kernel_rfl)) (fun _ _ _ h => h) (Or.inl ⟨by rfl, ?_⟩) ?_ ?_
                            rotate_left
                            · intro w'
                              go_simp
                              with_reducible rfl
                            rotate_left
                            · simp only [Act.put, List.setIfInBounds_toArray, List.set_cons_zero, List.set_cons_succ, i64_w, i32_w]
                              rfl
                            refine take_ (i := 11) (N := some 81) (v := ?_) (a' := ?_) #[true, true, true, false, false, true, true, true, false, false, true, true, false, false] rfl rfl (take_ofW HT_.out HW_.out (by kernel_rfl)) (fun _ _ _ h => h) (Or.inl ⟨by rfl, ?_⟩) hHeld ?_ ?_
                            rotate_left
                            · rintro w' ⟨s0, s1⟩
                              go_simp
                              with_reducible rfl
                            rotate_left
                            · simp only [Act.put, List.setIfInBounds_toArray, List.set_cons_zero, List.set_cons_succ, i64_w, i32_w]
                              rfl
                            refine one_ (i := 3) (N := some 73) #[true, true, true, true, false, true, true, true, false, false, true, true, false, false] rfl rfl (one_of HT_.out (by kernel_rfl)) (by decide) (fun K hK => ?_)
                            refine goes_ Try.func49 (by kernel_rfl) rfl #[.int .i64 ((rd_T52 l0_5 x5_2).f0), .int .i64 2] (by rfl) rfl rfl (by (try simp only [List.map_toArray, List.map_cons, List.map_nil]); first | done | rfl | (simp only [List.length_drop, List.length_take]; rfl)) ?_
                            with_reducible refine (wimpleref1_Be.calls kj30 ((rd_T52 l0_5 x5_2).f0) 2 t150 _ A54.out).mono ?_
                            rintro e w60 ⟨rfl, hb⟩
                            refine ⟨_, rfl, ?_⟩
                            have n0_ := Aside0.mk (blk_below (g := gb143) (o := .cells #[.int .i64 a0_0, .int .i64 a0_1, .int .i64 a0_2, .bool a0_3, .int .i64 a0_4, .slice (some ad147) l0_5.length c0_5] 24 (0, 0)) (by (with_reducible repeat (first | refine blk_drewN ?_ _ | refine blk_drew ?_ | refine blk_alloc ?_ _)); exact BK143.out) hb)
                            have n1_ := Aside0.mk (blk_below (g := gb144) (o := .cells #[.string x145000_2, .int .i64 x145001_2, .int .i64 x145002_2, .int .i64 x145003_2, .string x145004_2] 26 (0, 0)) (by (with_reducible repeat (first | refine blk_drewN ?_ _ | refine blk_drew ?_ | refine blk_alloc ?_ _)); exact BK144.out) hb)
                            have n2_ := Aside0.mk (blk_below (g := gb148) (o := .cells #[.int .i64 ((rd_T52 l0_5 x5_2).f0), .string ((rd_T52 l0_5 x5_2).f1)] 52 (0, 0)) (by (with_reducible repeat (first | refine blk_drewN ?_ _ | refine blk_drew ?_ | refine blk_alloc ?_ _)); exact BK148.out) hb)
                            have n3_ := Aside0.mk (below_step (by repeat (first | (with_reducible first | exact HB.out | apply below_alloc | apply pw_below_drewN | apply below_drew1 | refine below_set ?_ GE143.out | refine below_set ?_ GE144.out | refine below_set ?_ GE148.out) | exact HB.out)) hb)
                            clear BK143
                            clear BK144
                            clear BK148
                            clear HB
                            have BK143 := n0_
                            have BK144 := n1_
                            have BK148 := n2_
                            have HB := n3_
                            clear n0_ n1_ n2_ n3_
                            (try clear hb)
                            (try clear hb2)
                            (try clear hk)
                            (try clear hi)
                            refine hK.out _ _ ⟨(blk_cell BK148.out 0).trans rfl, (blk_cell BK148.out 1).trans rfl⟩ (fun hHeld => ?_)
                            clear hK K
                            refine norm_ (a' := ?_) ?_ ?_
                            rotate_left
                            · show Act.put _ (some 73) _ = _
                              simp only [Act.put, List.setIfInBounds_toArray, List.set_cons_zero, List.set_cons_succ, i64_w, i32_w]
                              rfl
                            refine pure_ (i := 4) (N := some 74) (v := ?_) (a' := ?_) #[true, true, true, true, true, true, true, true, false, false, true, true, false, false] rfl rfl (any_of HT_.out (by kernel_rfl)) (fun _ _ _ h => h) (Or.inl ⟨by rfl, ?_⟩) ?_ ?_
                            rotate_left
                            · intro w'
                              go_simp
                              with_reducible rfl
                            rotate_left
                            · simp only [Act.put, List.setIfInBounds_toArray, List.set_cons_zero, List.set_cons_succ, i64_w, i32_w]
                              rfl
                            refine one_ (i := 8) (N := some 78) #[true, true, true, true, true, true, true, true, true, false, true, true, false, false] rfl rfl (one_of HT_.out (by kernel_rfl)) (by decide) (fun K hK => ?_)
                            refine goes_ Try.func49 (by kernel_rfl) rfl #[.int .i64 (((rd_T52 l0_5 x5_2).f1).size : Int), .int .i64 2] (by rfl) rfl rfl (by (try simp only [List.map_toArray, List.map_cons, List.map_nil]); first | done | rfl | (simp only [List.length_drop, List.length_take]; rfl)) ?_
                            with_reducible refine (wimpleref1_Be.calls kj30 (((rd_T52 l0_5 x5_2).f1).size : Int) 2 t151 _ A56.out).mono ?_
                            rintro e w61 ⟨rfl, hb⟩
                            refine ⟨_, rfl, ?_⟩
                            have n0_ := Aside0.mk (blk_below (g := gb143) (o := .cells #[.int .i64 a0_0, .int .i64 a0_1, .int .i64 a0_2, .bool a0_3, .int .i64 a0_4, .slice (some ad147) l0_5.length c0_5] 24 (0, 0)) (by (with_reducible repeat (first | refine blk_drewN ?_ _ | refine blk_drew ?_ | refine blk_alloc ?_ _)); exact BK143.out) hb)
                            have n1_ := Aside0.mk (blk_below (g := gb144) (o := .cells #[.string x145000_2, .int .i64 x145001_2, .int .i64 x145002_2, .int .i64 x145003_2, .string x145004_2] 26 (0, 0)) (by (with_reducible repeat (first | refine blk_drewN ?_ _ | refine blk_drew ?_ | refine blk_alloc ?_ _)); exact BK144.out) hb)
                            have n2_ := Aside0.mk (blk_below (g := gb148) (o := .cells #[.int .i64 ((rd_T52 l0_5 x5_2).f0), .string ((rd_T52 l0_5 x5_2).f1)] 52 (0, 0)) (by (with_reducible repeat (first | refine blk_drewN ?_ _ | refine blk_drew ?_ | refine blk_alloc ?_ _)); exact BK148.out) hb)
                            have n3_ := Aside0.mk (below_step (by repeat (first | (with_reducible first | exact HB.out | apply below_alloc | apply pw_below_drewN | apply below_drew1 | refine below_set ?_ GE143.out | refine below_set ?_ GE144.out | refine below_set ?_ GE148.out) | exact HB.out)) hb)
                            clear BK143
                            clear BK144
                            clear BK148
                            clear HB
                            have BK143 := n0_
                            have BK144 := n1_
                            have BK148 := n2_
                            have HB := n3_
                            clear n0_ n1_ n2_ n3_
                            (try clear hb)
                            (try clear hb2)
                            (try clear hk)
                            (try clear hi)
                            refine hK.out _ _ ⟨(blk_cell BK148.out 0).trans rfl, (blk_cell BK148.out 1).trans rfl⟩ (fun hHeld => ?_)
                            clear hK K
                            refine norm_ (a' := ?_) ?_ ?_
                            rotate_left
                            · show Act.put _ (some 78) _ = _
                              simp only [Act.put, List.setIfInBounds_toArray, List.set_cons_zero, List.set_cons_succ, i64_w, i32_w]
                              rfl
                            refine pure_ (i := 9) (N := some 79) (v := ?_) (a' := ?_) #[true, true, true, true, true, true, true, true, true, true, true, true, false, false] rfl rfl (any_of HT_.out (by kernel_rfl)) (fun _ _ _ h => h) (Or.inl ⟨by rfl, ?_⟩) ?_ ?_
                            rotate_left
                            · intro w'
                              go_simp
                              with_reducible rfl
                            rotate_left
                            · simp only [Act.put, List.setIfInBounds_toArray, List.set_cons_zero, List.set_cons_succ, i64_w, i32_w]
                              rfl
                            refine pure_ (i := 12) (N := some 82) (v := ?_) (a' := ?_) #[true, true, true, true, true, true, true, true, true, true, true, true, true, false] rfl rfl (any_of HT_.out (by kernel_rfl)) (fun _ _ _ h => h) (Or.inl ⟨by rfl, ?_⟩) ?_ ?_
                            rotate_left
                            · intro w'
                              go_simp
                              with_reducible rfl
                            rotate_left
                            · simp only [Act.put, List.setIfInBounds_toArray, List.set_cons_zero, List.set_cons_succ, i64_w, i32_w]
                              rfl
                            refine pure_ (i := 13) (N := some 4) (v := ?_) (a' := ?_) #[true, true, true, true, true, true, true, true, true, true, true, true, true, true] rfl rfl (any_of HT_.out (by kernel_rfl)) (fun _ _ _ h => h) (Or.inl ⟨by rfl, ?_⟩) ?_ ?_
                            rotate_left
                            · intro w'
                              go_simp
                              with_reducible rfl
                            rotate_left
                            · simp only [Act.put, List.setIfInBounds_toArray, List.set_cons_zero, List.set_cons_succ, i64_w, i32_w]
                              rfl
                            refine done_ (done_of HT_.out (by kernel_rfl)) ?_
                            try go_wp2
                            go_roundg kj30
                            case measure => have := HJ1.out; have := HK2.out; have := HJ30.out; omega
                            case rel => exact ⟨(((x4_2 ++ t150) ++ t151) ++ ((rd_T52 l0_5 x5_2).f1)), (wrap64 (x5_2 + 1)), (x145000_2), (x145001_2), (x145002_2), (x145003_2), (x145004_2), (by first | rfl | (simp; done) | (simp [*]; done)), (by first | rfl | (simp; done) | (simp [*]; done)), H', ⟨by have := HJ1.out; have := HK2.out; have := HJ30.out; omega⟩, ⟨by (with_reducible repeat (first | refine blk_drewN ?_ _ | refine blk_drew ?_ | refine blk_alloc ?_ _)); exact BK143.out⟩, ⟨by (with_reducible repeat (first | refine blk_drewN ?_ _ | refine blk_drew ?_ | refine blk_alloc ?_ _)); exact BK144.out⟩, ⟨by repeat (first | (with_reducible first | exact HB.out | apply below_alloc | apply pw_below_drewN | apply below_drew1 | refine below_set ?_ GE143.out | refine below_set ?_ GE144.out | refine below_set ?_ GE148.out) | exact HB.out)⟩⟩
                          · rw [if_neg c58] at H
                            exact absurd H (by simp)
                        · rw [if_neg c57] at H
                          exact absurd H (by simp)
                      · rw [if_neg c55] at H
                        exact absurd H (by simp)
              · rw [if_neg c30] at H
                exact absurd H (by simp)
            · rw [if_neg c29] at H
              have c29b0 : decide (x5_2 < (l0_5.length : Int)) = false := decide_eq_false c29
              clear c29
              by_cases c62 : (x4_2.size : Int) > 65535
              · rw [if_pos c62] at H
                have c62b0 : decide (65535 < (x4_2.size : Int)) = true := decide_eq_true c62
                have c62b1 : decide (65535 < x4_2.size) = true := decide_eq_true (by omega)
                clear c62
                simp only [Option.some.injEq, Prod.mk.injEq] at H
                obtain ⟨rfl, rfl, rfl, rfl, rfl, rfl⟩ := H
                have hnb63 := NB143_144.out
                have hnc63 := NB144_143.out
                (try clear hcz37_0 hcz37_1 hfz37_0 hfz37_1)
                (try clear hcz43_0 hcz43_1 hfz43_0 hfz43_1)
                (try clear hcz46_0 hcz46_1 hfz46_0 hfz46_1)
                (try clear hcz49_0 hcz49_1 hfz49_0 hfz49_1)
                (try clear hcz53_0 hcz53_1 hcz53_2 hcz53_3 hcz53_4 hfz53_0 hfz53_1 hfz53_2 hfz53_3 hfz53_4)
                have hcz64_0 : wr.cell? ⟨gb143, 0, none⟩ = some (.int .i64 a0_0) := (blk_cell BK143.out 0).trans rfl
                have hcz64_1 : wr.cell? ⟨gb143, 1, none⟩ = some (.int .i64 a0_1) := (blk_cell BK143.out 1).trans rfl
                have hcz64_2 : wr.cell? ⟨gb143, 2, none⟩ = some (.int .i64 a0_2) := (blk_cell BK143.out 2).trans rfl
                have hcz64_3 : wr.cell? ⟨gb143, 3, none⟩ = some (.bool a0_3) := (blk_cell BK143.out 3).trans rfl
                have hcz64_4 : wr.cell? ⟨gb143, 4, none⟩ = some (.int .i64 a0_4) := (blk_cell BK143.out 4).trans rfl
                have hcz64_5 : wr.cell? ⟨gb143, 5, none⟩ = some (.slice A0_5 l0_5.length c0_5) := (blk_cell BK143.out 5).trans rfl
                have hfz64_0 := blk_frozen BK143.out 0
                have hfz64_1 := blk_frozen BK143.out 1
                have hfz64_2 := blk_frozen BK143.out 2
                have hfz64_3 := blk_frozen BK143.out 3
                have hfz64_4 := blk_frozen BK143.out 4
                have hfz64_5 := blk_frozen BK143.out 5
                (try clear hcz37_0 hcz37_1 hfz37_0 hfz37_1)
                (try clear hcz43_0 hcz43_1 hfz43_0 hfz43_1)
                (try clear hcz46_0 hcz46_1 hfz46_0 hfz46_1)
                (try clear hcz49_0 hcz49_1 hfz49_0 hfz49_1)
                (try clear hcz53_0 hcz53_1 hcz53_2 hcz53_3 hcz53_4 hfz53_0 hfz53_1 hfz53_2 hfz53_3 hfz53_4)
                have hcz65_0 : wr.cell? ⟨gb144, 0, none⟩ = some (.string x145000_2) := (blk_cell BK144.out 0).trans rfl
                have hcz65_1 : wr.cell? ⟨gb144, 1, none⟩ = some (.int .i64 x145001_2) := (blk_cell BK144.out 1).trans rfl
                have hcz65_2 : wr.cell? ⟨gb144, 2, none⟩ = some (.int .i64 x145002_2) := (blk_cell BK144.out 2).trans rfl
                have hcz65_3 : wr.cell? ⟨gb144, 3, none⟩ = some (.int .i64 x145003_2) := (blk_cell BK144.out 3).trans rfl
                have hcz65_4 : wr.cell? ⟨gb144, 4, none⟩ = some (.string x145004_2) := (blk_cell BK144.out 4).trans rfl
                have hfz65_0 := blk_frozen BK144.out 0
                have hfz65_1 := blk_frozen BK144.out 1
                have hfz65_2 := blk_frozen BK144.out 2
                have hfz65_3 := blk_frozen BK144.out 3
                have hfz65_4 := blk_frozen BK144.out 4
                go_wp2
                refine bodyPost_ret (results_ct rfl _ _ gb144 26 #[.string (⟨#[]⟩ : ByteArray), .int .i64 0, .int .i64 0, .int .i64 0, .string (⟨#[]⟩ : ByteArray)] (0, 0) _ rfl (by (with_reducible repeat (first | refine blk_drewN ?_ _ | refine blk_drew ?_ | refine blk_alloc ?_ _)); refine blk_put (cs := #[.string (⟨#[]⟩ : ByteArray), .int .i64 0, .int .i64 0, .int .i64 0, .string x145004_2]) ?_ 4 _ rfl; (with_reducible repeat (first | refine blk_drewN ?_ _ | refine blk_drew ?_ | refine blk_alloc ?_ _)); refine blk_put (cs := #[.string (⟨#[]⟩ : ByteArray), .int .i64 0, .int .i64 0, .int .i64 x145003_2, .string x145004_2]) ?_ 3 _ rfl; (with_reducible repeat (first | refine blk_drewN ?_ _ | refine blk_drew ?_ | refine blk_alloc ?_ _)); refine blk_put (cs := #[.string (⟨#[]⟩ : ByteArray), .int .i64 0, .int .i64 x145002_2, .int .i64 x145003_2, .string x145004_2]) ?_ 2 _ rfl; (with_reducible repeat (first | refine blk_drewN ?_ _ | refine blk_drew ?_ | refine blk_alloc ?_ _)); refine blk_put (cs := #[.string (⟨#[]⟩ : ByteArray), .int .i64 x145001_2, .int .i64 x145002_2, .int .i64 x145003_2, .string x145004_2]) ?_ 1 _ rfl; (with_reducible repeat (first | refine blk_drewN ?_ _ | refine blk_drew ?_ | refine blk_alloc ?_ _)); refine blk_put (cs := #[.string x145000_2, .int .i64 x145001_2, .int .i64 x145002_2, .int .i64 x145003_2, .string x145004_2]) ?_ 0 _ rfl; (with_reducible repeat (first | refine blk_drewN ?_ _ | refine blk_drew ?_ | refine blk_alloc ?_ _)); exact BK144.out) Try.underlying26 rfl (by kernel_rfl)) rfl ?_
                exact ⟨by first | rfl | (simp [errW_none, errW_some] <;> rfl) | (simp [*, errW_none, errW_some] <;> rfl), by repeat (first | (with_reducible first | exact HB.out | apply below_alloc | apply pw_below_drewN | apply below_drew1 | refine below_set ?_ GE143.out | refine below_set ?_ GE144.out) | exact HB.out)⟩
              · rw [if_neg c62] at H
                have c62b0 : decide (65535 < (x4_2.size : Int)) = false := decide_eq_false c62
                have c62b1 : decide (65535 < x4_2.size) = false := decide_eq_false (by omega)
                clear c62
                replace H := Option.bind_eq_some_iff.mp H
                obtain ⟨t146, A660, H⟩ := H
                replace H : (some ((⟨#[0]⟩ : ByteArray), 41, a0_0, Go.bits .or .i64 (Go.bits .or .i64 (Go.bits .or .i64 (wrap64 (a0_1 * 16777216)) (wrap64 (a0_2 * 65536))) t146) a0_4, x4_2, 0)) = some (r1, r2, r3, r4, r5, r6) := H
                have A66 := Aside0.mk A660
                clear A660
                simp only [Option.some.injEq, Prod.mk.injEq] at H
                obtain ⟨rfl, rfl, rfl, rfl, rfl, rfl⟩ := H
                have hnb67 := NB143_144.out
                have hnc67 := NB144_143.out
                (try clear hcz43_0 hcz43_1 hfz43_0 hfz43_1)
                (try clear hcz46_0 hcz46_1 hfz46_0 hfz46_1)
                (try clear hcz49_0 hcz49_1 hfz49_0 hfz49_1)
                (try clear hcz53_0 hcz53_1 hcz53_2 hcz53_3 hcz53_4 hfz53_0 hfz53_1 hfz53_2 hfz53_3 hfz53_4)
                have hcz68_0 : wr.cell? ⟨gb143, 0, none⟩ = some (.int .i64 a0_0) := (blk_cell BK143.out 0).trans rfl
                have hcz68_1 : wr.cell? ⟨gb143, 1, none⟩ = some (.int .i64 a0_1) := (blk_cell BK143.out 1).trans rfl
                have hcz68_2 : wr.cell? ⟨gb143, 2, none⟩ = some (.int .i64 a0_2) := (blk_cell BK143.out 2).trans rfl
                have hcz68_3 : wr.cell? ⟨gb143, 3, none⟩ = some (.bool a0_3) := (blk_cell BK143.out 3).trans rfl
                have hcz68_4 : wr.cell? ⟨gb143, 4, none⟩ = some (.int .i64 a0_4) := (blk_cell BK143.out 4).trans rfl
                have hcz68_5 : wr.cell? ⟨gb143, 5, none⟩ = some (.slice A0_5 l0_5.length c0_5) := (blk_cell BK143.out 5).trans rfl
                have hfz68_0 := blk_frozen BK143.out 0
                have hfz68_1 := blk_frozen BK143.out 1
                have hfz68_2 := blk_frozen BK143.out 2
                have hfz68_3 := blk_frozen BK143.out 3
                have hfz68_4 := blk_frozen BK143.out 4
                have hfz68_5 := blk_frozen BK143.out 5
                try go_wp2
                have n0_ := Aside0.mk (blk_drew BK143.out)
                have n1_ := Aside0.mk (blk_drew BK144.out)
                have n2_ := Aside0.mk (below_drew1 HB.out)
                clear BK143
                clear BK144
                clear HB
                have BK143 := n0_
                have BK144 := n1_
                have HB := n2_
                clear n0_ n1_ n2_
                refine start_ (n := 20) (S := fun w' => w'.cell? ⟨gb143, 0, none⟩ = some (.int .i64 a0_0) ∧ w'.cell? ⟨gb143, 1, none⟩ = some (.int .i64 a0_1) ∧ w'.cell? ⟨gb143, 2, none⟩ = some (.int .i64 a0_2) ∧ w'.cell? ⟨gb143, 3, none⟩ = some (.bool a0_3) ∧ w'.cell? ⟨gb143, 4, none⟩ = some (.int .i64 a0_4) ∧ w'.cell? ⟨gb143, 5, none⟩ = some (.slice A0_5 l0_5.length c0_5)) (ds := []) #[false, false, false, false, false, false, false, false, false, false, false, false, false, false, false, false, false, false, false, false] (by kernel_rfl) rfl rfl ⟨(blk_cell BK143.out 0).trans rfl, (blk_cell BK143.out 1).trans rfl, (blk_cell BK143.out 2).trans rfl, (blk_cell BK143.out 3).trans rfl, (blk_cell BK143.out 4).trans rfl, (blk_cell BK143.out 5).trans rfl⟩ (fun hHeld => ?_); refine with_tabW wimpleref4_PutOpt.tab13 wimpleref4_PutOpt.bits13 (fun HT_ HW_ => ?_)
                generalize wr.drew = w69 at BK143 BK144 HB hHeld ⊢
                refine pure_ (i := 0) (N := some 87) (v := ?_) (a' := ?_) #[true, false, false, false, false, false, false, false, false, false, false, false, false, false, false, false, false, false, false, false] rfl rfl (any_of HT_.out (by kernel_rfl)) (fun _ _ _ h => h) (Or.inl ⟨by rfl, ?_⟩) ?_ ?_
                rotate_left
                · intro w'
                  go_simp
                  with_reducible rfl
                rotate_left
                · simp only [Act.put, List.setIfInBounds_toArray, List.set_cons_zero, List.set_cons_succ, i64_w, i32_w]
                  rfl
                refine pure_ (i := 2) (N := some 89) (v := ?_) (a' := ?_) #[true, false, true, false, false, false, false, false, false, false, false, false, false, false, false, false, false, false, false, false] rfl rfl (any_of HT_.out (by kernel_rfl)) (fun _ _ _ h => h) (Or.inl ⟨by rfl, ?_⟩) ?_ ?_
                rotate_left
                · intro w'
                  go_simp
                  with_reducible rfl
                rotate_left
                · simp only [Act.put, List.setIfInBounds_toArray, List.set_cons_zero, List.set_cons_succ, i64_w, i32_w]
                  rfl
                refine pure_ (i := 5) (N := some 92) (v := ?_) (a' := ?_) #[true, false, true, false, false, true, false, false, false, false, false, false, false, false, false, false, false, false, false, false] rfl rfl (any_of HT_.out (by kernel_rfl)) (fun _ _ _ h => h) (Or.inl ⟨by rfl, ?_⟩) ?_ ?_
                rotate_left
                · intro w'
                  go_simp
                  with_reducible rfl
                rotate_left
                · simp only [Act.put, List.setIfInBounds_toArray, List.set_cons_zero, List.set_cons_succ, i64_w, i32_w]
                  rfl
                refine pure_ (i := 9) (N := some 96) (v := ?_) (a' := ?_) #[true, false, true, false, false, true, false, false, false, true, false, false, false, false, false, false, false, false, false, false] rfl rfl (any_of HT_.out (by kernel_rfl)) (fun _ _ _ h => h) (Or.inl ⟨by rfl, ?_⟩) ?_ ?_
                rotate_left
                · intro w'
                  go_simp
                  with_reducible rfl
                rotate_left
                · simp only [Act.put, List.setIfInBounds_toArray, List.set_cons_zero, List.set_cons_succ, i64_w, i32_w]
                  rfl
                refine pure_ (i := 13) (N := some 100) (v := ?_) (a' := ?_) #[true, false, true, false, false, true, false, false, false, true, false, false, false, true, false, false, false, false, false, false] rfl rfl (any_of HT_.out (by kernel_rfl)) (fun _ _ _ h => h) (Or.inl ⟨by rfl, ?_⟩) ?_ ?_
                rotate_left
                · intro w'
                  go_simp
                  with_reducible rfl
                rotate_left
                · simp only [Act.put, List.setIfInBounds_toArray, List.set_cons_zero, List.set_cons_succ, i64_w, i32_w]
                  rfl
                refine pure_ (i := 16) (N := some 103) (v := ?_) (a' := ?_) #[true, false, true, false, false, true, false, false, false, true, false, false, false, true, false, false, true, false, false, false] rfl rfl (any_of HT_.out (by kernel_rfl)) (fun _ _ _ h => h) (Or.inl ⟨by rfl, ?_⟩) ?_ ?_
                rotate_left
                · intro w'
                  go_simp
                  with_reducible rfl
                rotate_left
                · simp only [Act.put, List.setIfInBounds_toArray, List.set_cons_zero, List.set_cons_succ, i64_w, i32_w]
                  rfl
                refine take_ (i := 1) (N := some 88) (v := ?_) (a' := ?_) #[true, true, true, false, false, true, false, false, false, true, false, false, false, true, false, false, true, false, false, false] rfl rfl (take_ofW HT_.out HW_.out (by kernel_rfl)) (fun _ _ _ h => h) (Or.inl ⟨by rfl, ?_⟩) hHeld ?_ ?_
                rotate_left
                · rintro w' ⟨s0, s1, s2, s3, s4, s5⟩
                  go_simp
                  with_reducible rfl
                rotate_left
                · simp only [Act.put, List.setIfInBounds_toArray, List.set_cons_zero, List.set_cons_succ, i64_w, i32_w]
                  rfl
                refine take_ (i := 3) (N := some 90) (v := ?_) (a' := ?_) #[true, true, true, true, false, true, false, false, false, true, false, false, false, true, false, false, true, false, false, false] rfl rfl (take_ofW HT_.out HW_.out (by kernel_rfl)) (fun _ _ _ h => h) (Or.inl ⟨by rfl, ?_⟩) hHeld ?_ ?_
                rotate_left
                · rintro w' ⟨s0, s1, s2, s3, s4, s5⟩
                  go_simp
                  with_reducible rfl
                rotate_left
                · simp only [Act.put, List.setIfInBounds_toArray, List.set_cons_zero, List.set_cons_succ, i64_w, i32_w]
                  rfl
                refine pure_ (i := 4) (N := some 91) (v := ?_) (a' := ?_) #[true, true, true, true, true, true, false, false, false, true, false, false, false, true, false, false, true, false, false, false] rfl rfl (any_of HT_.out (by kernel_rfl)) (fun _ _ _ h => h) (Or.inl ⟨by rfl, ?_⟩) ?_ ?_
                rotate_left
                · intro w'
                  go_simp
                  with_reducible rfl
                rotate_left
                · simp only [Act.put, List.setIfInBounds_toArray, List.set_cons_zero, List.set_cons_succ, i64_w, i32_w]
                  rfl
                refine take_ (i := 6) (N := some 93) (v := ?_) (a' := ?_) #[true, true, true, true, true, true, true, false, false, true, false, false, false, true, false, false, true, false, false, false] rfl rfl (take_ofW HT_.out HW_.out (by kernel_rfl)) (fun _ _ _ h => h) (Or.inl ⟨by rfl, ?_⟩) hHeld ?_ ?_
                rotate_left
                · rintro w' ⟨s0, s1, s2, s3, s4, s5⟩
                  go_simp
                  with_reducible rfl
                rotate_left
                · simp only [Act.put, List.setIfInBounds_toArray, List.set_cons_zero, List.set_cons_succ, i64_w, i32_w]
                  rfl
                refine pure_ (i := 7) (N := some 94) (v := ?_) (a' := ?_) #[true, true, true, true, true, true, true, true, false, true, false, false, false, true, false, false, true, false, false, false] rfl rfl (any_of HT_.out (by kernel_rfl)) (fun _ _ _ h => h) (Or.inl ⟨by rfl, ?_⟩) ?_ ?_
                rotate_left
                · intro w'
                  go_simp
                  with_reducible rfl
                rotate_left
                · simp only [Act.put, List.setIfInBounds_toArray, List.set_cons_zero, List.set_cons_succ, i64_w, i32_w]
                  rfl
                refine pure_ (i := 8) (N := some 95) (v := ?_) (a' := ?_) #[true, true, true, true, true, true, true, true, true, true, false, false, false, true, false, false, true, false, false, false] rfl rfl (any_of HT_.out (by kernel_rfl)) (fun _ _ _ h => h) (Or.inl ⟨by rfl, ?_⟩) ?_ ?_
                rotate_left
                · intro w'
                  go_simp
                  with_reducible rfl
                rotate_left
                · simp only [Act.put, List.setIfInBounds_toArray, List.set_cons_zero, List.set_cons_succ, i64_w, i32_w]
                  rfl
                refine take_ (i := 10) (N := some 97) (v := ?_) (a' := ?_) #[true, true, true, true, true, true, true, true, true, true, true, false, false, true, false, false, true, false, false, false] rfl rfl (take_ofW HT_.out HW_.out (by kernel_rfl)) (fun _ _ _ h => h) (Or.inl ⟨by rfl, ?_⟩) hHeld ?_ ?_
                rotate_left
                · rintro w' ⟨s0, s1, s2, s3, s4, s5⟩
                  go_simp
                  with_reducible rfl
                rotate_left
                · simp only [Act.put, List.setIfInBounds_toArray, List.set_cons_zero, List.set_cons_succ, i64_w, i32_w]
                  rfl
                refine take_ (i := 14) (N := some 101) (v := ?_) (a' := ?_) #[true, true, true, true, true, true, true, true, true, true, true, false, false, true, true, false, true, false, false, false] rfl rfl (take_ofW HT_.out HW_.out (by kernel_rfl)) (fun _ _ _ h => h) (Or.inl ⟨by rfl, ?_⟩) hHeld ?_ ?_
                rotate_left
                · rintro w' ⟨s0, s1, s2, s3, s4, s5⟩
                  go_simp
                  with_reducible rfl
                rotate_left
                · simp only [Act.put, List.setIfInBounds_toArray, List.set_cons_zero, List.set_cons_succ, i64_w, i32_w]
                  rfl
                refine one_ (i := 11) (N := some 98) #[true, true, true, true, true, true, true, true, true, true, true, true, false, true, true, false, true, false, false, false] rfl rfl (one_of HT_.out (by kernel_rfl)) (by decide) (fun K hK => ?_)
                refine goes_ Try.func50 (by kernel_rfl) rfl #[.bool a0_3, .int .i64 15] (by rfl) rfl rfl (by (try simp only [List.map_toArray, List.map_cons, List.map_nil]); first | done | rfl | (simp only [List.length_drop, List.length_take]; rfl)) ?_
                with_reducible refine (wimpleref4_bit.calls a0_3 15 t146 _ A66.out).mono ?_
                rintro e w' ⟨rfl, ⟨nd, rfl⟩⟩
                refine ⟨_, rfl, ?_⟩
                refine hK.out _ _ ⟨(blk_cell BK143.out 0).trans rfl, (blk_cell BK143.out 1).trans rfl, (blk_cell BK143.out 2).trans rfl, (blk_cell BK143.out 3).trans rfl, (blk_cell BK143.out 4).trans rfl, (blk_cell BK143.out 5).trans rfl⟩ (fun hHeld => ?_)
                clear hK K
                refine norm_ (a' := ?_) ?_ ?_
                rotate_left
                · show Act.put _ (some 98) _ = _
                  simp only [Act.put, List.setIfInBounds_toArray, List.set_cons_zero, List.set_cons_succ, i64_w, i32_w]
                  rfl
                refine pure_ (i := 12) (N := some 99) (v := ?_) (a' := ?_) #[true, true, true, true, true, true, true, true, true, true, true, true, true, true, true, false, true, false, false, false] rfl rfl (any_of HT_.out (by kernel_rfl)) (fun _ _ _ h => h) (Or.inl ⟨by rfl, ?_⟩) ?_ ?_
                rotate_left
                · intro w'
                  go_simp
                  with_reducible rfl
                rotate_left
                · simp only [Act.put, List.setIfInBounds_toArray, List.set_cons_zero, List.set_cons_succ, i64_w, i32_w]
                  rfl
                refine pure_ (i := 15) (N := some 102) (v := ?_) (a' := ?_) #[true, true, true, true, true, true, true, true, true, true, true, true, true, true, true, true, true, false, false, false] rfl rfl (any_of HT_.out (by kernel_rfl)) (fun _ _ _ h => h) (Or.inl ⟨by rfl, ?_⟩) ?_ ?_
                rotate_left
                · intro w'
                  go_simp
                  with_reducible rfl
                rotate_left
                · simp only [Act.put, List.setIfInBounds_toArray, List.set_cons_zero, List.set_cons_succ, i64_w, i32_w]
                  rfl
                refine pure_ (i := 17) (N := some 104) (v := ?_) (a' := ?_) #[true, true, true, true, true, true, true, true, true, true, true, true, true, true, true, true, true, true, false, false] rfl rfl (any_of HT_.out (by kernel_rfl)) (fun _ _ _ h => h) (Or.inl ⟨by rfl, ?_⟩) ?_ ?_
                rotate_left
                · intro w'
                  go_simp
                  with_reducible rfl
                rotate_left
                · simp only [Act.put, List.setIfInBounds_toArray, List.set_cons_zero, List.set_cons_succ, i64_w, i32_w]
                  rfl
                refine one_ (i := 18) (N := none) #[true, true, true, true, true, true, true, true, true, true, true, true, true, true, true, true, true, true, true, false] rfl rfl (one_of HT_.out (by kernel_rfl)) (by decide) (fun K hK => ?_)
                have hs70 : w69.cell? ⟨gb144, 0, none⟩ = some (.string x145000_2) := (blk_cell BK144.out 0).trans rfl
                have hfs70 := blk_frozen BK144.out 0
                have hns70_0 := NB143_144.out
                have hms70_0 := NB144_143.out
                have hs71 : w69.cell? ⟨gb144, 1, none⟩ = some (.int .i64 x145001_2) := (blk_cell BK144.out 1).trans rfl
                have hfs71 := blk_frozen BK144.out 1
                have hns71_0 := NB143_144.out
                have hms71_0 := NB144_143.out
                have hs72 : w69.cell? ⟨gb144, 2, none⟩ = some (.int .i64 x145002_2) := (blk_cell BK144.out 2).trans rfl
                have hfs72 := blk_frozen BK144.out 2
                have hns72_0 := NB143_144.out
                have hms72_0 := NB144_143.out
                have hs73 : w69.cell? ⟨gb144, 3, none⟩ = some (.int .i64 x145003_2) := (blk_cell BK144.out 3).trans rfl
                have hfs73 := blk_frozen BK144.out 3
                have hns73_0 := NB143_144.out
                have hms73_0 := NB144_143.out
                have hs74 : w69.cell? ⟨gb144, 4, none⟩ = some (.string x145004_2) := (blk_cell BK144.out 4).trans rfl
                have hfs74 := blk_frozen BK144.out 4
                have hns74_0 := NB143_144.out
                have hms74_0 := NB144_143.out
                refine skip_ (w1 := ?_) (by rfl) rfl ?_ ?_
                rotate_left
                · go_simp
                  rfl
                refine hK.out _ _ ⟨((cell_far (p := ⟨gb144, _, none⟩) NB143_144.out _).trans (((cell_far (p := ⟨gb144, _, none⟩) NB143_144.out _).trans (((cell_far (p := ⟨gb144, _, none⟩) NB143_144.out _).trans (((cell_far (p := ⟨gb144, _, none⟩) NB143_144.out _).trans (((cell_far (p := ⟨gb144, _, none⟩) NB143_144.out _).trans (hHeld.1)))))))))), ((cell_far (p := ⟨gb144, _, none⟩) NB143_144.out _).trans (((cell_far (p := ⟨gb144, _, none⟩) NB143_144.out _).trans (((cell_far (p := ⟨gb144, _, none⟩) NB143_144.out _).trans (((cell_far (p := ⟨gb144, _, none⟩) NB143_144.out _).trans (((cell_far (p := ⟨gb144, _, none⟩) NB143_144.out _).trans (hHeld.2.1)))))))))), ((cell_far (p := ⟨gb144, _, none⟩) NB143_144.out _).trans (((cell_far (p := ⟨gb144, _, none⟩) NB143_144.out _).trans (((cell_far (p := ⟨gb144, _, none⟩) NB143_144.out _).trans (((cell_far (p := ⟨gb144, _, none⟩) NB143_144.out _).trans (((cell_far (p := ⟨gb144, _, none⟩) NB143_144.out _).trans (hHeld.2.2.1)))))))))), ((cell_far (p := ⟨gb144, _, none⟩) NB143_144.out _).trans (((cell_far (p := ⟨gb144, _, none⟩) NB143_144.out _).trans (((cell_far (p := ⟨gb144, _, none⟩) NB143_144.out _).trans (((cell_far (p := ⟨gb144, _, none⟩) NB143_144.out _).trans (((cell_far (p := ⟨gb144, _, none⟩) NB143_144.out _).trans (hHeld.2.2.2.1)))))))))), ((cell_far (p := ⟨gb144, _, none⟩) NB143_144.out _).trans (((cell_far (p := ⟨gb144, _, none⟩) NB143_144.out _).trans (((cell_far (p := ⟨gb144, _, none⟩) NB143_144.out _).trans (((cell_far (p := ⟨gb144, _, none⟩) NB143_144.out _).trans (((cell_far (p := ⟨gb144, _, none⟩) NB143_144.out _).trans (hHeld.2.2.2.2.1)))))))))), ((cell_far (p := ⟨gb144, _, none⟩) NB143_144.out _).trans (((cell_far (p := ⟨gb144, _, none⟩) NB143_144.out _).trans (((cell_far (p := ⟨gb144, _, none⟩) NB143_144.out _).trans (((cell_far (p := ⟨gb144, _, none⟩) NB143_144.out _).trans (((cell_far (p := ⟨gb144, _, none⟩) NB143_144.out _).trans (hHeld.2.2.2.2.2))))))))))⟩ (fun hHeld => ?_)
                clear hK K
                refine pure_ (i := 19) (N := some 3) (v := ?_) (a' := ?_) #[true, true, true, true, true, true, true, true, true, true, true, true, true, true, true, true, true, true, true, true] rfl rfl (any_of HT_.out (by kernel_rfl)) (fun _ _ _ h => h) (Or.inl ⟨by rfl, ?_⟩) ?_ ?_
                rotate_left
                · intro w'
                  go_simp
                  with_reducible rfl
                rotate_left
                · simp only [Act.put, List.setIfInBounds_toArray, List.set_cons_zero, List.set_cons_succ, i64_w, i32_w]
                  rfl
                refine done_ (done_of HT_.out (by kernel_rfl)) ?_
                try go_wp2
                refine bodyPost_ret (results_ct rfl _ _ gb144 26 #[.string (⟨#[0]⟩ : ByteArray), .int .i64 41, .int .i64 a0_0, .int .i64 (Go.bits .or .i64 (Go.bits .or .i64 (Go.bits .or .i64 (wrap64 (a0_1 * 16777216)) (wrap64 (a0_2 * 65536))) t146) a0_4), .string x4_2] (0, 0) _ rfl (by (with_reducible repeat (first | refine blk_drewN ?_ _ | refine blk_drew ?_ | refine blk_alloc ?_ _)); refine blk_put (cs := #[.string (⟨#[0]⟩ : ByteArray), .int .i64 41, .int .i64 a0_0, .int .i64 (Go.bits .or .i64 (Go.bits .or .i64 (Go.bits .or .i64 (wrap64 (a0_1 * 16777216)) (wrap64 (a0_2 * 65536))) t146) a0_4), .string x145004_2]) ?_ 4 _ rfl; (with_reducible repeat (first | refine blk_drewN ?_ _ | refine blk_drew ?_ | refine blk_alloc ?_ _)); refine blk_put (cs := #[.string (⟨#[0]⟩ : ByteArray), .int .i64 41, .int .i64 a0_0, .int .i64 x145003_2, .string x145004_2]) ?_ 3 _ rfl; (with_reducible repeat (first | refine blk_drewN ?_ _ | refine blk_drew ?_ | refine blk_alloc ?_ _)); refine blk_put (cs := #[.string (⟨#[0]⟩ : ByteArray), .int .i64 41, .int .i64 x145002_2, .int .i64 x145003_2, .string x145004_2]) ?_ 2 _ rfl; (with_reducible repeat (first | refine blk_drewN ?_ _ | refine blk_drew ?_ | refine blk_alloc ?_ _)); refine blk_put (cs := #[.string (⟨#[0]⟩ : ByteArray), .int .i64 x145001_2, .int .i64 x145002_2, .int .i64 x145003_2, .string x145004_2]) ?_ 1 _ rfl; (with_reducible repeat (first | refine blk_drewN ?_ _ | refine blk_drew ?_ | refine blk_alloc ?_ _)); refine blk_put (cs := #[.string x145000_2, .int .i64 x145001_2, .int .i64 x145002_2, .int .i64 x145003_2, .string x145004_2]) ?_ 0 _ rfl; (with_reducible repeat (first | refine blk_drewN ?_ _ | refine blk_drew ?_ | refine blk_alloc ?_ _)); exact BK144.out) Try.underlying26 rfl (by kernel_rfl)) rfl ?_
                exact ⟨by first | rfl | (simp [errW_none, errW_some] <;> rfl) | (simp [*, errW_none, errW_some] <;> rfl), by repeat (first | (with_reducible first | exact HB.out | apply below_alloc | apply pw_below_drewN | apply below_drew1 | refine below_set ?_ GE143.out | refine below_set ?_ GE144.out) | exact HB.out)⟩

end Go.Proofs.Ytndcjleadggibaa.POz

namespace Go.Proofs.Ytndcjleadggibaa.OptR
open Go.RowKit Go.Proofs.Ytndcjleadggibaa.POz Go.Proofs.YtndcjleadggibaaW.PrintWords Go.Proofs.Ytndcjleadggibaa.Pu Go.Proofs.Ytndcjleadggibaa.OctS Go.Proofs.Ytndcjleadggibaa.OptS
set_option linter.unusedVariables false
/-! ### Numbers -/
theorem rnum_l0 (s : ByteArray) (i n : Nat) (hn : n ≤ 7) (h : i + n ≤ s.size) (hs : s.size ≤ 4611686018427387904) : ∀ (m j : Nat), j + m = n →
    Ev (fun k => wimpleref1_Num.l0 k s (i : Int) (n : Int) (num s i j) (j : Int)) (num s i n, ((i + n : Nat) : Int), 0)
  | 0, j, hj => by
    refine Ev.step (fun k => by rw [wimpleref1_Num.l0]) (Ev.neg (by omega) (Ev.some _ fun _ => ?_))
    rw [w64 (by omega) (by omega), show j = n by omega]; simp
  | m + 1, j, hj => by
    have hr := num_range s i j
    have hp := pow_le j (by omega)
    have hb := bt_range s ((i + j : Nat) : Int)
    refine Ev.step (fun k => by rw [wimpleref1_Num.l0]) ?_
    rw [w64 (x := (i : Int) + (j : Int)) (by omega) (by omega), w64 (x := (j : Int) + 1) (by omega) (by omega)]
    refine Ev.pos (by omega) (Ev.pos (by omega) (Ev.pos (by omega) ?_))
    rw [show ((i : Int) + (j : Int)) = ((i + j : Nat) : Int) by omega, bits_next _ _ hr.1 (by omega) hb.1 hb.2]
    exact rnum_l0 s i n hn h hs m (j + 1) (by omega)
theorem rnum_yes (s : ByteArray) (i n : Nat) (hn : n ≤ 7) (h : i + n ≤ s.size) (hs : s.size ≤ 4611686018427387904) : Ev (fun k => wimpleref1_Num.f k s (i : Int) (n : Int)) (num s i n, ((i + n : Nat) : Int), 0) := by
  unfold wimpleref1_Num.f
  refine Ev.neg (by omega) (Ev.neg (by omega) (Ev.step (fun k => by rw [wimpleref1_Num.j0]) (Ev.neg ?_ ?_)))
  · rw [w64 (by omega) (by omega)]; simp; omega
  · exact rnum_l0 s i n hn h hs n 0 (by omega)
theorem rnum_no (s : ByteArray) (i : Int) (n : Nat) (hn : n ≤ 7) (h : ¬ (0 ≤ i ∧ i + n ≤ s.size)) (hs : s.size ≤ 4611686018427387904) : Ev (fun k => wimpleref1_Num.f k s i (n : Int)) (0, 0, 300) := by
  unfold wimpleref1_Num.f
  by_cases h0 : i < 0
  · exact Ev.pos h0 (Ev.step (fun k => by rw [wimpleref1_Num.j0]) (Ev.pos rfl (Ev.some _ fun _ => rfl)))
  · refine Ev.neg h0 ?_
    by_cases h1 : i > (s.size : Int)
    · exact Ev.pos h1 (Ev.step (fun k => by rw [wimpleref1_Num.j0]) (Ev.pos rfl (Ev.some _ fun _ => rfl)))
    · refine Ev.neg h1 (Ev.step (fun k => by rw [wimpleref1_Num.j0]) (Ev.pos ?_ (Ev.some _ fun _ => rfl)))
      rw [w64 (by omega) (by omega)]; simp; omega
theorem rnum2 (s : ByteArray) (i : Nat) (h : i + 2 ≤ s.size) (hs : s.size ≤ 4611686018427387904) : Ev (fun k => wimpleref1_Num.f k s (i : Int) 2) (num s i 2, ((i + 2 : Nat) : Int), 0) := rnum_yes s i 2 (by decide) h hs
theorem rnum2_no (s : ByteArray) (i : Int) (h : ¬ (0 ≤ i ∧ i + 2 ≤ s.size)) (hs : s.size ≤ 4611686018427387904) : Ev (fun k => wimpleref1_Num.f k s i 2) (0, 0, 300) := rnum_no s i 2 (by decide) (by simpa using h) hs
theorem rnum_any (s : ByteArray) (i : Int) (hs : s.size ≤ 4611686018427387904) : ∃ r, Ev (fun k => wimpleref1_Num.f k s i 2) r := by
  by_cases h : 0 ≤ i ∧ i + 2 ≤ s.size
  · obtain ⟨j, rfl⟩ := Int.eq_ofNat_of_zero_le h.1
    exact ⟨_, rnum2 s j (by omega) hs⟩
  · exact ⟨_, rnum2_no s i h hs⟩
theorem be2_ev (x : Int) (h0 : 0 ≤ x) (h1 : x ≤ 65535) : Ev (fun k => wimpleref1_Be.f k x 2) (strOfNums (p16 x)) := by
  unfold wimpleref1_Be.f
  refine Ev.pos (by decide) (Ev.pos (by decide) ?_)
  rw [wraps_u64 x h0 (by omega), show wrap64 (2 - 1 : Int) = 1 by decide +kernel, show List.replicate (2 : Int).toNat (0 : Int) = [0, 0] from rfl]
  refine Ev.step (fun k => by rw [wimpleref1_Be.l0]) (Ev.pos (by decide) (Ev.pos (by decide) (Ev.pos (by decide) ?_)))
  rw [show wrap64 (1 - 1 : Int) = 0 by decide +kernel]
  refine Ev.step (fun k => by rw [wimpleref1_Be.l0]) (Ev.pos (by decide) (Ev.pos (by decide) (Ev.pos (by simp) ?_)))
  rw [show wrap64 (0 - 1 : Int) = -1 by decide +kernel]
  refine Ev.step (fun k => by rw [wimpleref1_Be.l0]) (Ev.neg (by decide) (Ev.some _ fun _ => ?_))
  rw [u64_and255 x h0 (by omega), u64_and255 (x / 256) (by omega) (by omega)]
  show some (strOfNums [x / 256 % 256 % 256, x % 256 % 256]) = some (strOfNums [x / 256 % 256, x % 256])
  rw [Int.emod_emod, Int.emod_emod]
/-! ### GetOpt -/
def got (a b e : Int) (dd : Bool) (z : Int) (acc : List O) : Option (List O) → G
  | some os => (a, b, e, dd, z, acc ++ os, 0)
  | none => getNo
theorem rget_l0 (s n : ByteArray) (hs : s.size ≤ 65535) (t c l a b e z : Int) (dd : Bool) : ∀ (d i : Nat), s.size - i ≤ d → i ≤ s.size → ∀ acc : List O, acc.length ≤ i →
    Ev (fun k => wimpleref4_GetOpt.l0 k (i : Int) n t c l s a b e dd z acc) (got a b e dd z acc (parse ((bytesOf s).drop i))) := by
  intro d
  induction d with
  | zero =>
    intro i hd hi acc ha
    rw [List.drop_eq_nil_of_le (by rw [bytesOf_length]; omega)]
    refine Ev.step (fun k => by rw [wimpleref4_GetOpt.l0]) (Ev.neg (by omega) (Ev.some _ fun _ => ?_))
    rw [parse]; simp [got]
  | succ d ih =>
    intro i hd hi acc ha
    by_cases he : i = s.size
    · rw [List.drop_eq_nil_of_le (by rw [bytesOf_length]; omega)]
      refine Ev.step (fun k => by rw [wimpleref4_GetOpt.l0]) (Ev.neg (by omega) (Ev.some _ fun _ => ?_))
      rw [parse]; simp [got]
    · have hlen := bytesOf_length s
      refine Ev.step (fun k => by rw [wimpleref4_GetOpt.l0]) (Ev.pos (by omega) ?_)
      by_cases h4 : i + 4 ≤ s.size
      · refine Ev.bind (rnum2 s i (by omega) (by omega)) (Ev.bind (rnum2 s (i + 2) (by omega) (by omega)) ?_)
        have hr := num_range s (i + 2) 2
        rw [four _ _ (by omega), parse]
        rw [show i + 2 + 1 = i + 3 by omega] at *
        have hn : num s (i + 2) 2 = (bytesOf s).getD (i + 2) 0 * 256 + (bytesOf s).getD (i + 3) 0 := num2 s (i + 2)
        have hc : num s i 2 = (bytesOf s).getD i 0 * 256 + (bytesOf s).getD (i + 1) 0 := num2 s i
        rw [← hn, ← hc]
        generalize num s (i + 2) 2 = m at *
        generalize num s i 2 = x at *
        obtain ⟨m, rfl⟩ := Int.eq_ofNat_of_zero_le hr.1
        have hn2 : m < 65536 := by have h1 := hr.2; have h2 : (256 : Int) ^ 2 = 65536 := rfl; omega
        dsimp only
        refine Ev.pos rfl (Ev.pos rfl ?_)
        rw [w64 (x := (s.size : Int) - _) (by omega) (by omega), w64 (x := ((i + 2 + 2 : Nat) : Int) + (m : Int)) (by omega) (by omega), List.length_drop, hlen]
        simp only [Int.toNat_natCast]
        by_cases hw : m ≤ s.size - (i + 4)
        · refine Ev.neg (by omega) (Ev.pos (by omega) (Ev.pos (by omega) (Ev.pos (by omega) (Ev.pos (by omega) ?_))))
          rw [if_pos hw]
          have ih := ih (i + 4 + m) (by omega) (by omega) (acc ++ [⟨x, s.extract (i + 4) (i + 4 + m)⟩]) (by rw [List.length_append]; simp; omega)
          rw [show ((i + 2 + 2 : Nat) : Int) + (m : Int) = ((i + 4 + m : Nat) : Int) by omega, show i + 2 + 2 = i + 4 by omega, Int.toNat_natCast, List.drop_drop]
          have hx : strOfNums (((bytesOf s).drop (i + 4)).take m) = s.extract (i + 4) (i + 4 + m) := by
            apply bytesOf_inj
            rw [bytesOf_nums (fun x hx => byte_range (List.mem_of_mem_drop (List.mem_of_mem_take hx))), bytesOf_extract, List.drop_take]
            congr 1; omega
          rw [hx]
          have e : got a b e dd z acc ((parse ((bytesOf s).drop (i + 4 + m))).map fun os => (⟨x, s.extract (i + 4) (i + 4 + m)⟩ : O) :: os) = got a b e dd z (acc ++ [⟨x, s.extract (i + 4) (i + 4 + m)⟩]) (parse ((bytesOf s).drop (i + 4 + m))) := by
            cases parse ((bytesOf s).drop (i + 4 + m)) with
            | none => rfl
            | some os => simp [got]
          rw [e]
          exact ih
        · rw [if_neg hw]
          exact Ev.pos (by omega) (Ev.some _ fun _ => rfl)
      · rw [parse_short (by rw [Ne, List.drop_eq_nil_iff]; omega) (by rw [List.length_drop]; omega)]
        by_cases h2 : i + 2 ≤ s.size
        · refine Ev.bind (rnum2 s i (by omega) (by omega)) (Ev.bind (rnum2_no s ((i + 2 : Nat) : Int) (by omega) (by omega)) ?_)
          exact Ev.pos rfl (Ev.neg (by simp) (Ev.some _ fun _ => rfl))
        · obtain ⟨r, hr⟩ := rnum_any s 0 (by omega)
          refine Ev.bind (rnum2_no s (i : Int) (by omega) (by omega)) (Ev.bind hr ?_)
          exact Ev.neg (by simp) (Ev.some _ fun _ => rfl)
theorem short_eq (x : Int) : wimpleref4_short.f x = some (decide (0 ≤ x) && decide (x ≤ 65535)) := by
  unfold wimpleref4_short.f
  by_cases h : x ≥ 0
  · rw [if_pos h, decide_eq_true (show 0 ≤ x from h)]; rfl
  · rw [if_neg h, decide_eq_false (show ¬ 0 ≤ x from h)]; rfl
theorem wide_eq (x : Int) : wimpleref4_wide.f x = some (decide (0 ≤ x) && decide (x ≤ 4294967295)) := by
  unfold wimpleref4_wide.f
  by_cases h : x ≥ 0
  · rw [if_pos h, decide_eq_true (show 0 ≤ x from h)]; rfl
  · rw [if_neg h, decide_eq_false (show ¬ 0 ≤ x from h)]; rfl
theorem rget_ev (n : ByteArray) (t c l : Int) (s : ByteArray) : Ev (fun k => wimpleref4_GetOpt.f k n t c l s) (getR n t c l s) := by
  have no : Ev (fun k => wimpleref4_GetOpt.j0 k true n t c l s) getNo := by
    refine Ev.step (fun k => by rw [wimpleref4_GetOpt.j0]) ?_
    exact Ev.pos rfl (Ev.some _ fun _ => rfl)
  unfold wimpleref4_GetOpt.f getR getB
  by_cases h2 : n = ⟨#[0]⟩
  · refine Ev.pos ((root_iff n).2 h2) ?_
    by_cases h3 : t = 41
    · refine Ev.pos h3 (Ev.call (short_eq _) ?_)
      by_cases h4 : (decide (0 ≤ c) && decide (c ≤ 65535)) = true
      · rw [h4]
        refine Ev.pos rfl (Ev.call (wide_eq _) ?_)
        by_cases h5 : (decide (0 ≤ l) && decide (l ≤ 4294967295)) = true
        · rw [h5]
          refine Ev.pos rfl ?_
          by_cases h6 : s.size ≤ 65535
          · rw [decide_eq_false (by omega), decide_eq_true h6, decide_eq_true h2, decide_eq_true h3]
            refine Ev.step (fun k => by rw [wimpleref4_GetOpt.j0]) (Ev.neg (by decide) ?_)
            have := rget_l0 s n h6 t c l c (l / 16777216) (Go.bits .and .i64 (l / 65536) 255) (Go.bits .and .i64 l 32767) ((Go.bits .and .i64 (l / 32768) 1) == 1) s.size 0 (by omega) (by omega) [] (by simp)
            rw [List.drop_zero] at this
            have e : (if ((optsOf s).2 && (true && (true && (true && (true && true))))) = true then getYes c l (optsOf s).1 else getNo) = got c (l / 16777216) (Go.bits .and .i64 (l / 65536) 255) ((Go.bits .and .i64 (l / 32768) 1) == 1) (Go.bits .and .i64 l 32767) [] (parse (bytesOf s)) := by
              unfold optsOf
              cases parse (bytesOf s) with
              | none => rfl
              | some os => simp only [parsed, got, Bool.and_true, if_pos, and_255, and_1, and_32767, getYes]
            rw [e]
            exact this
          · rw [decide_eq_true (show (s.size : Int) > 65535 by omega), decide_eq_false h6]
            simpa using no
        · rw [show (decide (0 ≤ l) && decide (l ≤ 4294967295)) = false by simpa using h5]
          exact Ev.neg (by decide) (by simpa using no)
      · rw [show (decide (0 ≤ c) && decide (c ≤ 65535)) = false by simpa using h4]
        exact Ev.neg (by decide) (by simpa using no)
    · exact Ev.neg h3 (by simpa [h3] using no)
  · exact Ev.neg (fun e => h2 ((root_iff n).1 e)) (by simpa [h2] using no)
/-! ### FindOpt -/
theorem rfind_l0 (a0 : Int) (a1 : Bool) (a2 : Int) (a3 a4 a5 a6 : Bool) (a7 a8 : Int) (qs : List S124) (an ns l : List Q) (hl : l.length ≤ 4611686018427387904) : ∀ (n i : Nat), i + n = l.length → ∀ (m : Int) (o : G6), 0 ≤ m → m ≤ i →
    Ev (fun k => wimpleref4_FindOpt.l0 k m (i : Int) a0 a1 a2 a3 a4 a5 a6 a7 a8 qs an ns l o.1 o.2.1 o.2.2.1 o.2.2.2.1 o.2.2.2.2.1 o.2.2.2.2.2) (findR (l.drop i) m o)
  | 0, i, h, m, o, h0, h1 => by
    rw [List.drop_eq_nil_of_le (by omega), show findR [] m o = seven o m from rfl]
    unfold seven
    refine Ev.step (fun k => by rw [wimpleref4_FindOpt.l0]) (Ev.neg (by omega) (Ev.some _ fun _ => rfl))
  | n + 1, i, h, m, o, h0, h1 => by
    rw [drop_cons l z26 i (by omega)]
    refine Ev.step (fun k => by rw [wimpleref4_FindOpt.l0]) (Ev.pos (by omega) (Ev.pos (by omega) ?_))
    rw [w64 (x := m + 1) (by omega) (by omega), w64 (x := (i : Int) + 1) (by omega) (by omega)]
    show Ev _ (findR (rd_T26 l (i : Int) :: l.drop (i + 1)) m o)
    generalize rd_T26 l (i : Int) = q at *
    unfold findR
    by_cases c1 : q.f1 = 41
    · rw [if_pos c1]
      refine Ev.pos c1 ?_
      by_cases c2 : m = 0
      · rw [if_pos c2]
        exact Ev.pos c2 (Ev.bind (rget_ev q.f0 q.f1 q.f2 q.f3 q.f4) (rfind_l0 a0 a1 a2 a3 a4 a5 a6 a7 a8 qs an ns l hl n (i + 1) (by omega) (m + 1) (six (getQ q)) (by omega) (by omega)))
      · rw [if_neg c2]
        exact Ev.neg c2 (rfind_l0 a0 a1 a2 a3 a4 a5 a6 a7 a8 qs an ns l hl n (i + 1) (by omega) (m + 1) o (by omega) (by omega))
    · rw [if_neg c1]
      exact Ev.neg c1 (rfind_l0 a0 a1 a2 a3 a4 a5 a6 a7 a8 qs an ns l hl n (i + 1) (by omega) m o h0 (by omega))
theorem rfind_ev (a0 : Int) (a1 : Bool) (a2 : Int) (a3 a4 a5 a6 : Bool) (a7 a8 : Int) (qs : List S124) (an ns l : List Q) (hl : l.length ≤ 4611686018427387904) : Ev (fun k => wimpleref4_FindOpt.f k a0 a1 a2 a3 a4 a5 a6 a7 a8 qs an ns l) (findR l 0 out0) := by
  have := rfind_l0 a0 a1 a2 a3 a4 a5 a6 a7 a8 qs an ns l hl l.length 0 (by omega) 0 out0 (by omega) (by omega)
  rw [List.drop_zero] at this
  exact this
/-! ### PutOpt -/
theorem rttl (e v z : Int) (d : Bool) (t : Int) (ht : t = if d then 32768 else 0) (he : 0 ≤ e ∧ e ≤ 255) (hv : 0 ≤ v ∧ v ≤ 255) (hz : 0 ≤ z ∧ z ≤ 32767) :
    Go.bits .or .i64 (Go.bits .or .i64 (Go.bits .or .i64 (wrap64 (e * 16777216)) (wrap64 (v * 65536))) t) z = ttlOf e v d z := by
  rw [w64 (by omega) (by omega), w64 (by omega) (by omega)]
  have h1 := or_shl 24 (by decide) e (v * 65536) (by omega) (by omega) (by omega) (by omega)
  simp only [show (2 : Int) ^ 24 = 16777216 from rfl] at h1
  rw [h1, show e * 16777216 + v * 65536 = (e * 256 + v) * 65536 by omega]
  cases d with
  | true =>
    simp only [if_true] at ht
    subst ht
    have h2 := or_shl 16 (by decide) (e * 256 + v) 32768 (by omega) (by omega) (by omega) (by omega)
    have h3 := or_shl 15 (by decide) ((e * 256 + v) * 2 + 1) z (by omega) (by omega) (by omega) (by omega)
    simp only [show (2 : Int) ^ 16 = 65536 from rfl, show (2 : Int) ^ 15 = 32768 from rfl] at h2 h3
    rw [h2, show (e * 256 + v) * 65536 + 32768 = ((e * 256 + v) * 2 + 1) * 32768 by omega, h3]
    unfold ttlOf; simp; omega
  | false =>
    have ht : t = 0 := by simpa using ht
    subst ht
    have h2 := or_shl 16 (by decide) (e * 256 + v) 0 (by omega) (by omega) (by omega) (by omega)
    have h3 := or_shl 16 (by decide) (e * 256 + v) z (by omega) (by omega) (by omega) (by omega)
    simp only [show (2 : Int) ^ 16 = 65536 from rfl] at h2 h3
    rw [h2, Int.add_zero, h3]
    unfold ttlOf; simp; omega
theorem rput_l0 (l : List O) (hl : l.length ≤ 5864062014805) (s e v : Int) (d : Bool) (z : Int) (he : 0 ≤ e ∧ e ≤ 255) (hv : 0 ≤ v ∧ v ≤ 255) (hz : 0 ≤ z ∧ z ≤ 32767) : ∀ (m i : Nat), i + m = l.length → (osB (l.take i)).length ≤ 200000 →
    Ev (fun k => wimpleref4_PutOpt.l0 k (strOfNums (osB (l.take i))) (i : Int) s e v d z l) (putAns ((l.drop i).all oOk && decide ((osB l).length ≤ 65535)) s e v d z l)
  | 0, i, hm, hb => by
    have hi : l.take i = l := List.take_of_length_le (by omega)
    have hd : l.drop i = [] := List.drop_eq_nil_of_le (by omega)
    rw [hi] at hb ⊢
    refine Ev.step (fun k => by rw [wimpleref4_PutOpt.l0]) (Ev.neg (by omega) ?_)
    rw [hd]
    by_cases hw : (osB l).length ≤ 65535
    · rw [show (([] : List O).all oOk && decide ((osB l).length ≤ 65535)) = true by simp [hw]]
      refine Ev.neg (by rw [nums_size]; omega) ?_
      refine Ev.call (g := wimpleref4_bit.f d 15) (a := if d then 32768 else 0) (by cases d <;> rfl) (Ev.some _ fun _ => ?_)
      rw [rttl e v z d _ rfl he hv hz]
      rfl
    · rw [show (([] : List O).all oOk && decide ((osB l).length ≤ 65535)) = false by simp; omega]
      exact Ev.pos (by rw [nums_size]; omega) (Ev.some _ fun _ => rfl)
  | m + 1, i, hm, hb => by
    have hi : i < l.length := by omega
    have hn := osB_next l i hi
    have hdr : l.drop i = rd_T52 l i :: l.drop (i + 1) := drop_cons l z52 i hi
    have hall : (l.drop i).all oOk = (oOk (rd_T52 l i) && (l.drop (i + 1)).all oOk) := by rw [hdr]; rfl
    have hle := osB_le l i
    have ih := rput_l0 l hl s e v d z he hv hz m (i + 1) (by omega)
    generalize hx : rd_T52 l i = x at *
    rw [hn, List.length_append, oB_length] at ih
    have no : ∀ y : Bool, y = true → Ev (fun k => wimpleref4_PutOpt.j2 k (strOfNums (osB (l.take i))) (i : Int) y s e v d z l x.f0 x.f1) putNo := fun y hy => by
      refine Ev.step (fun k => by rw [wimpleref4_PutOpt.j2]) ?_
      exact Ev.pos hy (Ev.some _ fun _ => rfl)
    refine Ev.step (fun k => by rw [wimpleref4_PutOpt.l0]) (Ev.pos (by omega) (Ev.pos (by omega) ?_))
    rw [hx]
    refine Ev.call (short_eq _) ?_
    by_cases hc : 0 ≤ x.f0 ∧ x.f0 ≤ 65535
    · rw [decide_eq_true hc.1, decide_eq_true hc.2]
      refine Ev.pos rfl ?_
      by_cases hs : x.f1.size ≤ 65535
      · refine Ev.neg (by omega) ?_
        have ho : oOk x = true := by unfold oOk; simp; omega
        by_cases hw : (osB (l.take i)).length ≤ 65535
        · rw [decide_eq_false (show ¬ ((strOfNums (osB (l.take i))).size : Int) > 65535 by rw [nums_size]; omega)]
          refine Ev.step (fun k => by rw [wimpleref4_PutOpt.j2]) (Ev.neg (by decide) ?_)
          refine Ev.bind (be2_ev x.f0 hc.1 hc.2) (Ev.pos (by rw [nums_size, nums_size]; simp only [p16, List.length_cons, List.length_nil]; omega) ?_)
          refine Ev.bind (be2_ev (x.f1.size : Int) (by omega) (by omega)) (Ev.pos (by rw [ByteArray.size_append, nums_size, nums_size, nums_size]; simp only [p16, List.length_cons, List.length_nil]; omega) ?_)
          refine Ev.pos (by rw [ByteArray.size_append, ByteArray.size_append, nums_size, nums_size, nums_size]; simp only [p16, List.length_cons, List.length_nil]; omega) ?_
          have hd : strOfNums (osB (l.take i)) ++ strOfNums (p16 x.f0) ++ strOfNums (p16 (x.f1.size : Int)) ++ x.f1 = strOfNums (osB (l.take i) ++ oB x) := by
            unfold oB
            rw [← Pu.nums_append, ← Pu.nums_append, ← Pu.nums_append, nums_bytesOf]
            simp only [ByteArray.append_assoc]
          rw [hd, w64 (x := (i : Int) + 1) (by omega) (by omega), hall, ho, Bool.true_and]
          exact ih (by omega)
        · rw [decide_eq_true (show ((strOfNums (osB (l.take i))).size : Int) > 65535 by rw [nums_size]; omega), show decide ((osB l).length ≤ 65535) = false by simp; omega, Bool.and_false]
          exact no _ rfl
      · refine Ev.pos (by omega) ?_
        rw [hall, show oOk x = false by unfold oOk; simp; omega]
        exact no _ rfl
    · rw [show (decide (0 ≤ x.f0) && decide (x.f0 ≤ 65535)) = false by simp only [Bool.and_eq_false_iff, decide_eq_false_iff_not]; omega, hall, show oOk x = false by unfold oOk; simp; omega]
      exact Ev.neg (by decide) (no _ rfl)
theorem rput_ev (s e v : Int) (d : Bool) (z : Int) (l : List O) (hl : l.length ≤ 5864062014805) : Ev (fun k => wimpleref4_PutOpt.f k s e v d z l) (putR s e v d z l) := by
  have e1 : putR s e v d z l = putAns (headOk s e v z && osOk l) s e v d z l := rfl
  have no : ∀ y : Bool, y = true → Ev (fun k => wimpleref4_PutOpt.j0 k y s e v d z l) putNo := fun y hy => by
    refine Ev.step (fun k => by rw [wimpleref4_PutOpt.j0]) ?_
    exact Ev.pos hy (Ev.some _ fun _ => rfl)
  rw [e1]
  unfold wimpleref4_PutOpt.f
  refine Ev.call (short_eq _) ?_
  by_cases h1 : (decide (0 ≤ s) && decide (s ≤ 65535)) = true
  · by_cases hk : headOk s e v z = true
    · have hk' := hk
      unfold headOk at hk'
      simp only [Bool.and_eq_true, decide_eq_true_eq] at hk'
      obtain ⟨_, he, hv, hz⟩ := hk'
      rw [h1, hk, Bool.true_and, decide_eq_false (by omega)]
      refine Ev.pos rfl (Ev.neg (by omega) (Ev.neg (by omega) (Ev.neg (by omega) (Ev.neg (by omega) (Ev.neg (by omega) (Ev.step (fun k => by rw [wimpleref4_PutOpt.j0]) (Ev.neg (by decide) ?_)))))))
      exact rput_l0 l hl s e v d z he hv hz l.length 0 (by omega) (by simp [osB])
    · rw [h1, show headOk s e v z = false by simpa using hk, Bool.false_and]
      refine Ev.pos rfl ?_
      by_cases c1 : e < 0
      · exact Ev.pos c1 (no _ rfl)
      by_cases c2 : e > 255
      · exact Ev.neg c1 (Ev.pos c2 (no _ rfl))
      by_cases c3 : v < 0
      · exact Ev.neg c1 (Ev.neg c2 (Ev.pos c3 (no _ rfl)))
      by_cases c4 : v > 255
      · exact Ev.neg c1 (Ev.neg c2 (Ev.neg c3 (Ev.pos c4 (no _ rfl))))
      by_cases c5 : z < 0
      · exact Ev.neg c1 (Ev.neg c2 (Ev.neg c3 (Ev.neg c4 (Ev.pos c5 (no _ rfl)))))
      refine Ev.neg c1 (Ev.neg c2 (Ev.neg c3 (Ev.neg c4 (Ev.neg c5 (no _ (decide_eq_true ?_))))))
      by_cases c6 : z > 32767
      · exact c6
      · refine absurd ?_ hk
        unfold headOk
        simp only [Bool.and_eq_true, decide_eq_true_eq] at h1 ⊢
        omega
  · have h1 : (decide (0 ≤ s) && decide (s ≤ 65535)) = false := by simpa using h1
    rw [h1, show headOk s e v z = false by unfold headOk; rw [h1]; rfl]
    exact Ev.neg (by decide) (no _ rfl)
/-! ### How many options -/
theorem parse_len : ∀ (n : Nat) (l : List Int), l.length ≤ n → ∀ os, parse l = some os → os.length ≤ l.length
  | _, [], _, os, h => by
    rw [parse] at h
    cases h
    exact Nat.zero_le _
  | 0, _ :: _, hn, _, _ => by simp at hn
  | n + 1, a :: b :: c :: d :: rest, hn, os, h => by
    rw [parse] at h
    split at h
    · rw [Option.map_eq_some_iff] at h
      obtain ⟨os', h', rfl⟩ := h
      have := parse_len n (rest.drop (c * 256 + d).toNat) (by rw [List.length_drop]; simp at hn; omega) os' h'
      rw [List.length_drop] at this
      simp only [List.length_cons]
      omega
    · cases h
  | n + 1, [_], hn, os, h => by rw [parse_short (by simp) (by simp)] at h; cases h
  | n + 1, [_, _], hn, os, h => by rw [parse_short (by simp) (by simp)] at h; cases h
  | n + 1, [_, _, _], hn, os, h => by rw [parse_short (by simp) (by simp)] at h; cases h
theorem get_len (n : ByteArray) (t c l : Int) (s : ByteArray) : (getR n t c l s).2.2.2.2.2.1.length ≤ s.size := by
  unfold getR
  split
  · show (optsOf s).1.length ≤ _
    unfold optsOf
    cases e : parse (bytesOf s) with
    | none => exact Nat.zero_le _
    | some os =>
      have := parse_len _ _ (Nat.le_refl _) os e
      rw [bytesOf_length] at this
      simpa [parsed] using this
  · exact Nat.zero_le _
theorem find_len : ∀ (l : List Q) (m : Int) (o : G6) (z : Nat), o.2.2.2.2.2.length ≤ z → (∀ r ∈ l, r.f4.size ≤ z) → (findR l m o).2.2.2.2.2.1.length ≤ z
  | [], m, o, z, h, _ => h
  | r :: rs, m, o, z, h, hs => by
    have hr := fun x hx => hs x (List.mem_cons_of_mem _ hx)
    unfold findR
    split
    · split
      · exact find_len rs _ _ z (Nat.le_trans (get_len r.f0 r.f1 r.f2 r.f3 r.f4) (hs r (List.mem_cons_self ..))) hr
      · exact find_len rs _ _ z h hr
    · exact find_len rs _ _ z h hr
end Go.Proofs.Ytndcjleadggibaa.OptR

namespace Go.Proofs.Ytndcjleadggibaa.Base
open Go.RowKit Go.PlainAid

theorem w64 {x : Int} (h0 : -9223372036854775808 ≤ x) (h1 : x ≤ 9223372036854775807) : wrap64 x = x := IntWalk.wrap64_in x ⟨h0, h1⟩

/-! ### Strings and their bytes -/
/-! ### Worlds -/
end Go.Proofs.Ytndcjleadggibaa.Base

namespace Go.Proofs.Ytndcjleadggibaa.OptsW
open Go.RowKit Go.Proofs.Ytndcjleadggibaa.Base Go.Proofs.YtndcjleadggibaaW.PrintWords Go.Proofs.YtndcjleadggibaaW.PrintLast Go.Proofs.YtndcjleadggibaaW.PrintMore Go.Proofs.Ytndcjleadggibaa.POz Go.Proofs.Ytndcjleadggibaa.Pu Go.Proofs.Ytndcjleadggibaa.OptS Go.Proofs.Ytndcjleadggibaa.OptR Go.Proofs.Ytndcjleadggibaa.KeptO
set_option linter.unusedVariables false
set_option linter.unusedSimpArgs false
theorem eqR (a : ByteArray) (b c d : Int) (e : ByteArray) (w : World) : (Op.equalIn 10000 26 (.agg #[.string a, .int .i64 b, .int .i64 c, .int .i64 d, .string e]) (.agg #[.string a, .int .i64 b, .int .i64 c, .int .i64 d, .string e])).run Try.prog w = .ok true w := by
  have h : (true && (true && (true && (true && (true && true))))) = true := rfl
  rw [← h]
  refine KeptO.eqA_of Try.underlying26 (by kernel_rfl) ?_
  refine KeptO.eqf_cons (by rfl) (by go_simp; rfl) (by go_simp; rfl) (by go_simp) ?_
  refine KeptO.eqf_cons (by rfl) (by go_simp; rfl) (by go_simp; rfl) (by go_simp) ?_
  refine KeptO.eqf_cons (by rfl) (by go_simp; rfl) (by go_simp; rfl) (by go_simp) ?_
  refine KeptO.eqf_cons (by rfl) (by go_simp; rfl) (by go_simp; rfl) (by go_simp) ?_
  refine KeptO.eqf_cons (by rfl) (by go_simp; rfl) (by go_simp; rfl) (by go_simp) ?_
  exact KeptO.eqf_nil
theorem r_ok {w : World} {base : Nat} {ok ok' : Nat → Prop} {v : Value} {xs : List S52} (h : Kd.R k52 52 w base ok v xs) (hok : ∀ k, v.ownBlock = some k → ok' k) : Kd.R k52 52 w base ok' v xs :=
  Kd.R_flat (fun h => by obtain rfl := k52_openM h; exact k52_mkM _ _ _ _) h (fun k hk _ => hok k hk)
theorem spoil_at : ∀ (m i : Nat) (l : List S52), l.length ≤ 4611686018427387904 → i + m = l.length → ∃ r, Ev (fun k => wimplelaw0_SpoilOptions.l0 k l (i : Int)) r
  | 0, i, l, hl, h => ⟨l, Ev.step (fun k => by rw [wimplelaw0_SpoilOptions.l0]) (Ev.neg (by omega) (Ev.some _ fun _ => rfl))⟩
  | m + 1, i, l, hl, h => by
    obtain ⟨r, hr⟩ := spoil_at m (i + 1) (l.set i (⟨Go.bits .xor .i64 ((rd_T52 l (i : Int)).f0) 90, (rd_T52 l (i : Int)).f1⟩ : S52)) (by rw [List.length_set]; exact hl) (by rw [List.length_set]; omega)
    refine ⟨r, Ev.step (fun k => by rw [wimplelaw0_SpoilOptions.l0]) (Ev.pos (by omega) (Ev.pos (by omega) ?_))⟩
    rw [Pu.w64 (by omega) (by omega), Int.toNat_natCast]
    exact hr
theorem spoil_ev (l : List S52) (hl : l.length ≤ 4611686018427387904) : ∃ r, Ev (fun k => wimplelaw0_SpoilOptions.f k l) r := spoil_at l.length 0 l hl (by omega)
theorem alloc3 (w : World) (X Y Z : Array Value) (tX tY tZ : Nat) : (((w.alloc (.cells X tX)).alloc (.cells Y tY)).alloc (.cells Z tZ)).heap[w.heap.size]? = some (.cells X tX (0, 0)) ∧ (((w.alloc (.cells X tX)).alloc (.cells Y tY)).alloc (.cells Z tZ)).heap[w.heap.size + 1]? = some (.cells Y tY (0, 0)) ∧ (((w.alloc (.cells X tX)).alloc (.cells Y tY)).alloc (.cells Z tZ)).heap[w.heap.size + 1 + 1]? = some (.cells Z tZ (0, 0)) ∧ Below w.heap.size w (((w.alloc (.cells X tX)).alloc (.cells Y tY)).alloc (.cells Z tZ)) ∧ (((w.alloc (.cells X tX)).alloc (.cells Y tY)).alloc (.cells Z tZ)).heap.size = w.heap.size + 1 + 1 + 1 := by
  have e1 : (w.alloc (.cells X tX)).heap.size = w.heap.size + 1 := by simp
  have e2 : ((w.alloc (.cells X tX)).alloc (.cells Y tY)).heap.size = w.heap.size + 1 + 1 := by simp
  refine ⟨blk_alloc (blk_alloc (blk_new w _) _) _, ?_, ?_, (((Below.refl _ _).alloc (Nat.le_refl _) _).alloc (by simp) _).alloc (by simp; omega) _, by simp⟩
  · rw [← e1]; exact blk_alloc (blk_new _ _) _
  · rw [← e2]; exact blk_new _ _
set_option maxHeartbeats 8000000 in
set_option maxRecDepth 100000 in
theorem walk (o0 o1 o2 : Int) (o3 : Bool) (o4 : Int) (A : Option Addr) (c : Nat) (l : List S52) (n : ByteArray) (t cl ttl : Int) (d : ByteArray) (m0 : Int) (m1 : Bool) (m2 : Int) (m3 m4 m5 m6 : Bool) (m7 m8 : Int)
    (A1 : Option Addr) (c1 : Nat) (qs : List S124) (A2 : Option Addr) (c2 : Nat) (an : List S26) (A3 : Option Addr) (c3 : Nat) (ns : List S26) (A4 : Option Addr) (c4 : Nat) (ar : List S26) (w : World)
    (hl : l.length ≤ 1048576) (hd : d.size ≤ 1048576) (har : ar.length ≤ 1048576) (hs : ∀ r ∈ ar, r.f4.size ≤ 1048576)
    (k0 : Kd.C k52 w A l.length l) (l0 : l.length ≤ c) (k1 : Kd.C k124 w A1 qs.length qs) (l1 : qs.length ≤ c1) (k2 : Kd.C k26 w A2 an.length an) (l2 : an.length ≤ c2) (k3 : Kd.C k26 w A3 ns.length ns) (l3 : ns.length ≤ c3) (k4 : Kd.C k26 w A4 ar.length ar) (l4 : ar.length ≤ c4) :
    Calls Try.prog 3 #[.agg #[.int .i64 o0, .int .i64 o1, .int .i64 o2, .bool o3, .int .i64 o4, .slice A l.length c], .agg #[.string n, .int .i64 t, .int .i64 cl, .int .i64 ttl, .string d], .agg #[.int .i64 m0, .bool m1, .int .i64 m2, .bool m3, .bool m4, .bool m5, .bool m6, .int .i64 m7, .int .i64 m8, .slice A1 qs.length c1, .slice A2 an.length c2, .slice A3 ns.length c3, .slice A4 ar.length c4]] w fun e w' => e = .returned (.bool true) ∧ Below w.heap.size w w' := by
  obtain ⟨⟨p1, p2, p3, p4, p5, p6⟩, hP⟩ : ∃ r, r = putR o0 o1 o2 o3 o4 l := ⟨_, rfl⟩
  obtain ⟨⟨g1, g2, g3, g4, g5, os, g7⟩, hG⟩ : ∃ r, r = getR n t cl ttl d := ⟨_, rfl⟩
  obtain ⟨⟨f1, f2, f3, f4, f5, fs, f7⟩, hF⟩ : ∃ r, r = findR ar 0 out0 := ⟨_, rfl⟩
  obtain ⟨K1, e1⟩ := put_ev o0 o1 o2 o3 o4 l (by omega)
  obtain ⟨K2, e2⟩ := rput_ev o0 o1 o2 o3 o4 l (by omega)
  obtain ⟨K3, e3⟩ := get_ev n t cl ttl d (by omega)
  obtain ⟨K4, e4⟩ := rget_ev n t cl ttl d
  obtain ⟨K5, e5⟩ := find_ev m0 m1 m2 m3 m4 m5 m6 m7 m8 qs an ns ar (by omega) (fun r hr => Nat.le_trans (hs r hr) (by decide))
  obtain ⟨K6, e6⟩ := rfind_ev m0 m1 m2 m3 m4 m5 m6 m7 m8 qs an ns ar (by omega)
  obtain ⟨K7, e7⟩ := awake_ev
  rw [← hP] at e1 e2
  rw [← hG] at e3 e4
  rw [← hF] at e5 e6
  have zo : os.length ≤ 1048576 := by
    have := get_len n t cl ttl d
    rw [← hG] at this
    exact Nat.le_trans this (by omega)
  have zf : fs.length ≤ 1048576 := by
    have := find_len ar 0 out0 1048576 (by decide) (fun r hr => hs r hr)
    rw [← hF] at this
    exact this
  obtain ⟨K8, e8⟩ := same_refl g1 g2 g3 g4 g5 os (by omega)
  obtain ⟨K9, e9⟩ := same_refl f1 f2 f3 f4 f5 fs (by omega)
  obtain ⟨ro, Ka, ea⟩ := spoil_ev os (by omega)
  obtain ⟨rf, Kb, eb⟩ := spoil_ev fs (by omega)
  clear hP hG hF hs hd
  have hER := fun w => eqR p1 p2 p3 p4 p5 w
  have kN := fun (x : Int) (w : World) => (wimplelaw0_Num.calls x x w (num_eq x)).mono fun e w' ⟨h1, h2⟩ => And.intro h1 h2.below
  have KM := Lib.hid (And.intro k0 (And.intro k1 (And.intro k2 (And.intro k3 k4))))
  have LM := Lib.hid (And.intro l0 (And.intro l1 (And.intro l2 (And.intro l3 l4))))
  have E := Lib.hid (And.intro (e1 K1 (Nat.le_refl _)) (And.intro (e2 K2 (Nat.le_refl _)) (And.intro (e3 K3 (Nat.le_refl _)) (And.intro (e4 K4 (Nat.le_refl _)) (And.intro (e5 K5 (Nat.le_refl _)) (And.intro (e6 K6 (Nat.le_refl _)) (And.intro (e7 K7 (Nat.le_refl _)) (And.intro (e8 K8 (Nat.le_refl _)) (And.intro (e9 K9 (Nat.le_refl _)) (And.intro (ea Ka (Nat.le_refl _)) (eb Kb (Nat.le_refl _))))))))))))
  have HL := Lib.hid hl
  clear k0 k1 k2 k3 k4 l0 l1 l2 l3 l4 e1 e2 e3 e4 e5 e6 e7 e8 e9 ea eb hl har zo zf
  obtain ⟨bo, br, bm, Bx, Zx⟩ := alloc3 w #[.int .i64 o0, .int .i64 o1, .int .i64 o2, .bool o3, .int .i64 o4, .slice A l.length c] #[.string n, .int .i64 t, .int .i64 cl, .int .i64 ttl, .string d] #[.int .i64 m0, .bool m1, .int .i64 m2, .bool m3, .bool m4, .bool m5, .bool m6, .int .i64 m7, .int .i64 m8, .slice A1 qs.length c1, .slice A2 an.length c2, .slice A3 ns.length c3, .slice A4 ar.length c4] 24 26 32
  go_enter Try.func3, Try.ntmps3
  go_upto_region 1 with (fail)
  generalize ((w.alloc (.cells #[.int .i64 o0, .int .i64 o1, .int .i64 o2, .bool o3, .int .i64 o4, .slice A l.length c] 24)).alloc (.cells #[.string n, .int .i64 t, .int .i64 cl, .int .i64 ttl, .string d] 26)).alloc (.cells #[.int .i64 m0, .bool m1, .int .i64 m2, .bool m3, .bool m4, .bool m5, .bool m6, .int .i64 m7, .int .i64 m8, .slice A1 qs.length c1, .slice A2 an.length c2, .slice A3 ns.length c3, .slice A4 ar.length c4] 32) = w0 at *
  obtain ⟨go, hgo⟩ : ∃ g, g = w.heap.size := ⟨_, rfl⟩
  obtain ⟨gr, hgr⟩ : ∃ g, g = w.heap.size + 1 := ⟨_, rfl⟩
  obtain ⟨gm, hgm⟩ : ∃ g, g = w.heap.size + 1 + 1 := ⟨_, rfl⟩
  rw [← hgm, ← hgr, ← hgo]
  rw [← hgo] at bo
  rw [← hgr] at br
  rw [← hgm] at bm
  have Z0 := Lib.hid (And.intro hgo (And.intro hgr (And.intro hgm Zx)))
  clear hgo hgr hgm Zx
  have c0 : w0.cell? ⟨go, 0, none⟩ = some (.int .i64 o0) := (blk_cell bo 0).trans rfl
  have c1 : w0.cell? ⟨go, 1, none⟩ = some (.int .i64 o1) := (blk_cell bo 1).trans rfl
  have c2 : w0.cell? ⟨go, 2, none⟩ = some (.int .i64 o2) := (blk_cell bo 2).trans rfl
  have c3 : w0.cell? ⟨go, 3, none⟩ = some (.bool o3) := (blk_cell bo 3).trans rfl
  have c4 : w0.cell? ⟨go, 4, none⟩ = some (.int .i64 o4) := (blk_cell bo 4).trans rfl
  have c5 : w0.cell? ⟨go, 5, none⟩ = some (.slice A l.length c) := (blk_cell bo 5).trans rfl
  have hb2 : Below w0.heap.size w0 (w0.alloc (.cells #[.int .i64 o0, .int .i64 o1, .int .i64 o2, .bool o3, .int .i64 o4, .slice A l.length c] 24)) := (Below.refl _ _).alloc (Nat.le_refl _) _
  have bx := blk_new w0 (.cells #[.int .i64 o0, .int .i64 o1, .int .i64 o2, .bool o3, .int .i64 o4, .slice A l.length c] 24)
  have z2 : (w0.alloc (.cells #[.int .i64 o0, .int .i64 o1, .int .i64 o2, .bool o3, .int .i64 o4, .slice A l.length c] 24)).heap.size = w0.heap.size + 1 := by simp
  go_upto_region 2 with (fail)
  replace Bx := Bx.trans (hb2.mono Bx.size)
  replace bo := blk_below bo hb2
  replace br := blk_below br hb2
  replace bm := blk_below bm hb2
  generalize w0.alloc (.cells #[.int .i64 o0, .int .i64 o1, .int .i64 o2, .bool o3, .int .i64 o4, .slice A l.length c] 24) = w1 at *
  obtain ⟨gx, hg⟩ : ∃ k, k = w0.heap.size := ⟨_, rfl⟩
  rw [← hg] at bx ⊢
  have Z1 := Lib.hid (And.intro hg z2)
  clear hg hb2 z2
  clear c0 c1 c2 c3 c4 c5
  have c5 : w1.cell? ⟨go, 5, none⟩ = some (.slice A l.length c) := (blk_cell bo 5).trans rfl
  have kL := lend A c l HL.out w1 (Kd.C_below KM.out.1 Bx) LM.out.1
  go_wp2_with fail
  refine kL.mono ?_
  rintro e w2 ⟨Af, cf, rfl, RL, hb⟩
  have ZL := Lib.hid hb.size
  replace Bx := Bx.trans (hb.mono Bx.size)
  replace bo := blk_below bo hb
  replace br := blk_below br hb
  replace bm := blk_below bm hb
  replace bx := blk_below bx hb
  clear c5
  clear hb kL
  have x5 : w2.cell? ⟨gx, 5, none⟩ = some (.slice A l.length c) := (blk_cell bx 5).trans rfl
  have xf := blk_frozen bx 5
  go_upto_region 3 with (fail)
  clear x5 xf
  have hx := blk_put bx 5 (.slice Af l.length cf) rfl
  have hgx : gx ≠ go ∧ gx ≠ gr ∧ gx ≠ gm ∧ w.heap.size ≤ gx ∧ gx < w1.heap.size := by have a := Z0.out; have b := Z1.out; omega
  have hS : Kept w2 (w2.setCell ⟨gx, 5, none⟩ (.slice Af l.length cf)) (fun k => k = gx) := (Kept.refl _ (fun k => k = gx)).setCell (p := ⟨gx, 5, none⟩) (.inl rfl) _
  replace Bx := Bx.setCell (p := ⟨gx, 5, none⟩) hgx.2.2.2.1 (.slice Af l.length cf)
  replace bo := blk_kept bo hS (fun h => hgx.1 h.symm)
  replace br := blk_kept br hS (fun h => hgx.2.1 h.symm)
  replace bm := blk_kept bm hS (fun h => hgx.2.2.1 h.symm)
  have RB := Kd.R_base RL
  replace RL := Kd.R_kept (r_ok RL (ok' := fun k => k ≠ gx) (fun k hk => by have := RB k hk; have := hgx.2.2.2.2; omega)) hS (fun k h => h)
  have z2 : (w2.setCell ⟨gx, 5, none⟩ (.slice Af l.length cf)).heap.size = w2.heap.size := by simp [World.setCell]
  generalize w2.setCell ⟨gx, 5, none⟩ (.slice Af l.length cf) = w3 at *
  replace bx : w3.heap[gx]? = some (.cells #[.int .i64 o0, .int .i64 o1, .int .i64 o2, .bool o3, .int .i64 o4, .slice Af l.length cf] 24 (0, 0)) := by simpa using hx
  have Z2 := Lib.hid (And.intro z2 (And.intro ZL.out hgx.2.2.2.2))
  clear hx hS RB z2 hgx ZL
  have x0 : w3.cell? ⟨gx, 0, none⟩ = some (.int .i64 o0) := (blk_cell bx 0).trans rfl
  have x1 : w3.cell? ⟨gx, 1, none⟩ = some (.int .i64 o1) := (blk_cell bx 1).trans rfl
  have x2 : w3.cell? ⟨gx, 2, none⟩ = some (.int .i64 o2) := (blk_cell bx 2).trans rfl
  have x3 : w3.cell? ⟨gx, 3, none⟩ = some (.bool o3) := (blk_cell bx 3).trans rfl
  have x4 : w3.cell? ⟨gx, 4, none⟩ = some (.int .i64 o4) := (blk_cell bx 4).trans rfl
  have x5 : w3.cell? ⟨gx, 5, none⟩ = some (.slice Af l.length cf) := (blk_cell bx 5).trans rfl
  have kA := opt_Put.calls K1 o0 o1 o2 o3 o4 Af cf l p1 p2 p3 p4 p5 p6 w3 (by have h := Kd.C_take (m := l.length) (Kd.R_reads' RL).2.2 (by rw [full_len]; omega); simpa using h) (by have := (Kd.R_reads' RL).2.1; omega) E.out.1
  go_wp2_with fail
  refine kA.mono ?_
  rintro e w4 ⟨rfl, hb⟩
  have hsz := Lib.hid hb.size
  replace Bx := Bx.trans (hb.mono Bx.size)
  replace bo := blk_below bo hb
  replace br := blk_below br hb
  replace bm := blk_below bm hb
  replace bx := blk_below bx hb
  replace RL := Kd.R_below RL hb
  clear x0 x1 x2 x3 x4 x5
  clear hb kA
  have hb2 : Below w4.heap.size w4 (w4.alloc (.cells #[.string p1, .int .i64 p2, .int .i64 p3, .int .i64 p4, .string p5] 26)) := (Below.refl _ _).alloc (Nat.le_refl _) _
  have ba := blk_new w4 (.cells #[.string p1, .int .i64 p2, .int .i64 p3, .int .i64 p4, .string p5] 26)
  have z2 : (w4.alloc (.cells #[.string p1, .int .i64 p2, .int .i64 p3, .int .i64 p4, .string p5] 26)).heap.size = w4.heap.size + 1 := by simp
  go_upto_region 4 with (fail)
  replace Bx := Bx.trans (hb2.mono Bx.size)
  replace bo := blk_below bo hb2
  replace br := blk_below br hb2
  replace bm := blk_below bm hb2
  replace bx := blk_below bx hb2
  replace RL := Kd.R_below RL hb2
  generalize w4.alloc (.cells #[.string p1, .int .i64 p2, .int .i64 p3, .int .i64 p4, .string p5] 26) = w5 at *
  obtain ⟨ga, hg⟩ : ∃ k, k = w4.heap.size := ⟨_, rfl⟩
  rw [← hg] at ba ⊢
  have Z3a := Lib.hid (And.intro hg z2)
  clear hg hb2 z2
  have Z3 := Lib.hid (And.intro hsz.out Z3a.out)
  clear hsz Z3a
  have c0 : w5.cell? ⟨go, 0, none⟩ = some (.int .i64 o0) := (blk_cell bo 0).trans rfl
  have c1 : w5.cell? ⟨go, 1, none⟩ = some (.int .i64 o1) := (blk_cell bo 1).trans rfl
  have c2 : w5.cell? ⟨go, 2, none⟩ = some (.int .i64 o2) := (blk_cell bo 2).trans rfl
  have c3 : w5.cell? ⟨go, 3, none⟩ = some (.bool o3) := (blk_cell bo 3).trans rfl
  have c4 : w5.cell? ⟨go, 4, none⟩ = some (.int .i64 o4) := (blk_cell bo 4).trans rfl
  have c5 : w5.cell? ⟨go, 5, none⟩ = some (.slice A l.length c) := (blk_cell bo 5).trans rfl
  have kA := wimpleref4_PutOpt.calls K2 o0 o1 o2 o3 o4 A c l p1 p2 p3 p4 p5 p6 w5 (Kd.C_below KM.out.1 Bx) LM.out.1 E.out.2.1
  go_wp2_with fail
  refine kA.mono ?_
  rintro e w6 ⟨rfl, hb⟩
  have hsz := Lib.hid hb.size
  replace Bx := Bx.trans (hb.mono Bx.size)
  replace bo := blk_below bo hb
  replace br := blk_below br hb
  replace bm := blk_below bm hb
  replace bx := blk_below bx hb
  replace ba := blk_below ba hb
  replace RL := Kd.R_below RL hb
  clear c0 c1 c2 c3 c4 c5
  clear hb kA
  have hb2 : Below w6.heap.size w6 (w6.alloc (.cells #[.string p1, .int .i64 p2, .int .i64 p3, .int .i64 p4, .string p5] 26)) := (Below.refl _ _).alloc (Nat.le_refl _) _
  have bb := blk_new w6 (.cells #[.string p1, .int .i64 p2, .int .i64 p3, .int .i64 p4, .string p5] 26)
  have z2 : (w6.alloc (.cells #[.string p1, .int .i64 p2, .int .i64 p3, .int .i64 p4, .string p5] 26)).heap.size = w6.heap.size + 1 := by simp
  go_upto_region 5 with (fail)
  replace Bx := Bx.trans (hb2.mono Bx.size)
  replace bo := blk_below bo hb2
  replace br := blk_below br hb2
  replace bm := blk_below bm hb2
  replace bx := blk_below bx hb2
  replace ba := blk_below ba hb2
  replace RL := Kd.R_below RL hb2
  generalize w6.alloc (.cells #[.string p1, .int .i64 p2, .int .i64 p3, .int .i64 p4, .string p5] 26) = w7 at *
  obtain ⟨gb, hg⟩ : ∃ k, k = w6.heap.size := ⟨_, rfl⟩
  rw [← hg] at bb ⊢
  have Z4a := Lib.hid (And.intro hg z2)
  clear hg hb2 z2
  have Z4 := Lib.hid (And.intro hsz.out Z4a.out)
  clear hsz Z4a
  have r0 : w7.cell? ⟨gr, 0, none⟩ = some (.string n) := (blk_cell br 0).trans rfl
  have r1 : w7.cell? ⟨gr, 1, none⟩ = some (.int .i64 t) := (blk_cell br 1).trans rfl
  have r2 : w7.cell? ⟨gr, 2, none⟩ = some (.int .i64 cl) := (blk_cell br 2).trans rfl
  have r3 : w7.cell? ⟨gr, 3, none⟩ = some (.int .i64 ttl) := (blk_cell br 3).trans rfl
  have r4 : w7.cell? ⟨gr, 4, none⟩ = some (.string d) := (blk_cell br 4).trans rfl
  have kA := opt_Get.calls K3 n t cl ttl d g1 g2 g3 g4 g5 os g7 w7 E.out.2.2.1
  go_wp2_with fail
  refine kA.mono ?_
  rintro e w8 ⟨v, rfl, RC, hb⟩
  have ubRC := Kd.R_lt RC
  have lbRC := Kd.R_base RC
  obtain ⟨ARC, cRC, rfl⟩ := Kd.R_slice RC
  have URC := Lib.hid (And.intro lbRC ubRC)
  clear lbRC ubRC
  have hsz := Lib.hid hb.size
  replace Bx := Bx.trans (hb.mono Bx.size)
  replace bo := blk_below bo hb
  replace br := blk_below br hb
  replace bm := blk_below bm hb
  replace bx := blk_below bx hb
  replace ba := blk_below ba hb
  replace bb := blk_below bb hb
  replace RL := Kd.R_below RL hb
  clear r0 r1 r2 r3 r4
  clear hb kA
  have hb2 : Below w8.heap.size w8 (w8.alloc (.cells #[.int .i64 g1, .int .i64 g2, .int .i64 g3, .bool g4, .int .i64 g5, .slice ARC os.length cRC] 24)) := (Below.refl _ _).alloc (Nat.le_refl _) _
  have bc := blk_new w8 (.cells #[.int .i64 g1, .int .i64 g2, .int .i64 g3, .bool g4, .int .i64 g5, .slice ARC os.length cRC] 24)
  have z2 : (w8.alloc (.cells #[.int .i64 g1, .int .i64 g2, .int .i64 g3, .bool g4, .int .i64 g5, .slice ARC os.length cRC] 24)).heap.size = w8.heap.size + 1 := by simp
  go_upto_region 6 with (fail)
  replace Bx := Bx.trans (hb2.mono Bx.size)
  replace bo := blk_below bo hb2
  replace br := blk_below br hb2
  replace bm := blk_below bm hb2
  replace bx := blk_below bx hb2
  replace ba := blk_below ba hb2
  replace bb := blk_below bb hb2
  replace RL := Kd.R_below RL hb2
  replace RC := Kd.R_below RC hb2
  generalize w8.alloc (.cells #[.int .i64 g1, .int .i64 g2, .int .i64 g3, .bool g4, .int .i64 g5, .slice ARC os.length cRC] 24) = w9 at *
  obtain ⟨gc, hg⟩ : ∃ k, k = w8.heap.size := ⟨_, rfl⟩
  rw [← hg] at bc ⊢
  have Z5a := Lib.hid (And.intro hg z2)
  clear hg hb2 z2
  have Z5 := Lib.hid (And.intro hsz.out Z5a.out)
  clear hsz Z5a
  have r0 : w9.cell? ⟨gr, 0, none⟩ = some (.string n) := (blk_cell br 0).trans rfl
  have r1 : w9.cell? ⟨gr, 1, none⟩ = some (.int .i64 t) := (blk_cell br 1).trans rfl
  have r2 : w9.cell? ⟨gr, 2, none⟩ = some (.int .i64 cl) := (blk_cell br 2).trans rfl
  have r3 : w9.cell? ⟨gr, 3, none⟩ = some (.int .i64 ttl) := (blk_cell br 3).trans rfl
  have r4 : w9.cell? ⟨gr, 4, none⟩ = some (.string d) := (blk_cell br 4).trans rfl
  have kA := wimpleref4_GetOpt.calls K4 n t cl ttl d g1 g2 g3 g4 g5 os g7 w9 E.out.2.2.2.1
  go_wp2_with fail
  refine kA.mono ?_
  rintro e w10 ⟨v, rfl, RD, hb⟩
  have ubRD := Kd.R_lt RD
  have lbRD := Kd.R_base RD
  obtain ⟨ARD, cRD, rfl⟩ := Kd.R_slice RD
  have URD := Lib.hid (And.intro lbRD ubRD)
  clear lbRD ubRD
  have hsz := Lib.hid hb.size
  replace Bx := Bx.trans (hb.mono Bx.size)
  replace bo := blk_below bo hb
  replace br := blk_below br hb
  replace bm := blk_below bm hb
  replace bx := blk_below bx hb
  replace ba := blk_below ba hb
  replace bb := blk_below bb hb
  replace bc := blk_below bc hb
  replace RL := Kd.R_below RL hb
  replace RC := Kd.R_below RC hb
  clear r0 r1 r2 r3 r4
  clear hb kA
  have hb2 : Below w10.heap.size w10 (w10.alloc (.cells #[.int .i64 g1, .int .i64 g2, .int .i64 g3, .bool g4, .int .i64 g5, .slice ARD os.length cRD] 24)) := (Below.refl _ _).alloc (Nat.le_refl _) _
  have bd := blk_new w10 (.cells #[.int .i64 g1, .int .i64 g2, .int .i64 g3, .bool g4, .int .i64 g5, .slice ARD os.length cRD] 24)
  have z2 : (w10.alloc (.cells #[.int .i64 g1, .int .i64 g2, .int .i64 g3, .bool g4, .int .i64 g5, .slice ARD os.length cRD] 24)).heap.size = w10.heap.size + 1 := by simp
  go_upto_region 7 with (fail)
  replace Bx := Bx.trans (hb2.mono Bx.size)
  replace bo := blk_below bo hb2
  replace br := blk_below br hb2
  replace bm := blk_below bm hb2
  replace bx := blk_below bx hb2
  replace ba := blk_below ba hb2
  replace bb := blk_below bb hb2
  replace bc := blk_below bc hb2
  replace RL := Kd.R_below RL hb2
  replace RC := Kd.R_below RC hb2
  replace RD := Kd.R_below RD hb2
  generalize w10.alloc (.cells #[.int .i64 g1, .int .i64 g2, .int .i64 g3, .bool g4, .int .i64 g5, .slice ARD os.length cRD] 24) = w11 at *
  obtain ⟨gd, hg⟩ : ∃ k, k = w10.heap.size := ⟨_, rfl⟩
  rw [← hg] at bd ⊢
  have Z6a := Lib.hid (And.intro hg z2)
  clear hg hb2 z2
  have Z6 := Lib.hid (And.intro hsz.out Z6a.out)
  clear hsz Z6a
  have y0 : w11.cell? ⟨gm, 0, none⟩ = some (.int .i64 m0) := (blk_cell bm 0).trans rfl
  have y1 : w11.cell? ⟨gm, 1, none⟩ = some (.bool m1) := (blk_cell bm 1).trans rfl
  have y2 : w11.cell? ⟨gm, 2, none⟩ = some (.int .i64 m2) := (blk_cell bm 2).trans rfl
  have y3 : w11.cell? ⟨gm, 3, none⟩ = some (.bool m3) := (blk_cell bm 3).trans rfl
  have y4 : w11.cell? ⟨gm, 4, none⟩ = some (.bool m4) := (blk_cell bm 4).trans rfl
  have y5 : w11.cell? ⟨gm, 5, none⟩ = some (.bool m5) := (blk_cell bm 5).trans rfl
  have y6 : w11.cell? ⟨gm, 6, none⟩ = some (.bool m6) := (blk_cell bm 6).trans rfl
  have y7 : w11.cell? ⟨gm, 7, none⟩ = some (.int .i64 m7) := (blk_cell bm 7).trans rfl
  have y8 : w11.cell? ⟨gm, 8, none⟩ = some (.int .i64 m8) := (blk_cell bm 8).trans rfl
  have y9 : w11.cell? ⟨gm, 9, none⟩ = some (.slice A1 qs.length c1) := (blk_cell bm 9).trans rfl
  have y10 : w11.cell? ⟨gm, 10, none⟩ = some (.slice A2 an.length c2) := (blk_cell bm 10).trans rfl
  have y11 : w11.cell? ⟨gm, 11, none⟩ = some (.slice A3 ns.length c3) := (blk_cell bm 11).trans rfl
  have y12 : w11.cell? ⟨gm, 12, none⟩ = some (.slice A4 ar.length c4) := (blk_cell bm 12).trans rfl
  have kA := opt_Find.calls K5 m0 m1 m2 m3 m4 m5 m6 m7 m8 A1 c1 qs A2 c2 an A3 c3 ns A4 c4 ar f1 f2 f3 f4 f5 fs f7 w11 (Kd.C_below KM.out.2.1 Bx) LM.out.2.1 (Kd.C_below KM.out.2.2.1 Bx) LM.out.2.2.1 (Kd.C_below KM.out.2.2.2.1 Bx) LM.out.2.2.2.1 (Kd.C_below KM.out.2.2.2.2 Bx) LM.out.2.2.2.2 E.out.2.2.2.2.1
  go_wp2_with fail
  refine kA.mono ?_
  rintro e w12 ⟨v, rfl, RI, hb⟩
  have ubRI := Kd.R_lt RI
  have lbRI := Kd.R_base RI
  obtain ⟨ARI, cRI, rfl⟩ := Kd.R_slice RI
  have URI := Lib.hid (And.intro lbRI ubRI)
  clear lbRI ubRI
  have hsz := Lib.hid hb.size
  replace Bx := Bx.trans (hb.mono Bx.size)
  replace bo := blk_below bo hb
  replace br := blk_below br hb
  replace bm := blk_below bm hb
  replace bx := blk_below bx hb
  replace ba := blk_below ba hb
  replace bb := blk_below bb hb
  replace bc := blk_below bc hb
  replace bd := blk_below bd hb
  replace RL := Kd.R_below RL hb
  replace RC := Kd.R_below RC hb
  replace RD := Kd.R_below RD hb
  clear y0 y1 y2 y3 y4 y5 y6 y7 y8 y9 y10 y11 y12
  clear hb kA
  have hb2 : Below w12.heap.size w12 (w12.alloc (.cells #[.int .i64 f1, .int .i64 f2, .int .i64 f3, .bool f4, .int .i64 f5, .slice ARI fs.length cRI] 24)) := (Below.refl _ _).alloc (Nat.le_refl _) _
  have bi := blk_new w12 (.cells #[.int .i64 f1, .int .i64 f2, .int .i64 f3, .bool f4, .int .i64 f5, .slice ARI fs.length cRI] 24)
  have z2 : (w12.alloc (.cells #[.int .i64 f1, .int .i64 f2, .int .i64 f3, .bool f4, .int .i64 f5, .slice ARI fs.length cRI] 24)).heap.size = w12.heap.size + 1 := by simp
  go_upto_region 8 with (fail)
  replace Bx := Bx.trans (hb2.mono Bx.size)
  replace bo := blk_below bo hb2
  replace br := blk_below br hb2
  replace bm := blk_below bm hb2
  replace bx := blk_below bx hb2
  replace ba := blk_below ba hb2
  replace bb := blk_below bb hb2
  replace bc := blk_below bc hb2
  replace bd := blk_below bd hb2
  replace RL := Kd.R_below RL hb2
  replace RC := Kd.R_below RC hb2
  replace RD := Kd.R_below RD hb2
  replace RI := Kd.R_below RI hb2
  generalize w12.alloc (.cells #[.int .i64 f1, .int .i64 f2, .int .i64 f3, .bool f4, .int .i64 f5, .slice ARI fs.length cRI] 24) = w13 at *
  obtain ⟨gi, hg⟩ : ∃ k, k = w12.heap.size := ⟨_, rfl⟩
  rw [← hg] at bi ⊢
  have Z7a := Lib.hid (And.intro hg z2)
  clear hg hb2 z2
  have Z7 := Lib.hid (And.intro hsz.out Z7a.out)
  clear hsz Z7a
  have y0 : w13.cell? ⟨gm, 0, none⟩ = some (.int .i64 m0) := (blk_cell bm 0).trans rfl
  have y1 : w13.cell? ⟨gm, 1, none⟩ = some (.bool m1) := (blk_cell bm 1).trans rfl
  have y2 : w13.cell? ⟨gm, 2, none⟩ = some (.int .i64 m2) := (blk_cell bm 2).trans rfl
  have y3 : w13.cell? ⟨gm, 3, none⟩ = some (.bool m3) := (blk_cell bm 3).trans rfl
  have y4 : w13.cell? ⟨gm, 4, none⟩ = some (.bool m4) := (blk_cell bm 4).trans rfl
  have y5 : w13.cell? ⟨gm, 5, none⟩ = some (.bool m5) := (blk_cell bm 5).trans rfl
  have y6 : w13.cell? ⟨gm, 6, none⟩ = some (.bool m6) := (blk_cell bm 6).trans rfl
  have y7 : w13.cell? ⟨gm, 7, none⟩ = some (.int .i64 m7) := (blk_cell bm 7).trans rfl
  have y8 : w13.cell? ⟨gm, 8, none⟩ = some (.int .i64 m8) := (blk_cell bm 8).trans rfl
  have y9 : w13.cell? ⟨gm, 9, none⟩ = some (.slice A1 qs.length c1) := (blk_cell bm 9).trans rfl
  have y10 : w13.cell? ⟨gm, 10, none⟩ = some (.slice A2 an.length c2) := (blk_cell bm 10).trans rfl
  have y11 : w13.cell? ⟨gm, 11, none⟩ = some (.slice A3 ns.length c3) := (blk_cell bm 11).trans rfl
  have y12 : w13.cell? ⟨gm, 12, none⟩ = some (.slice A4 ar.length c4) := (blk_cell bm 12).trans rfl
  have kA := wimpleref4_FindOpt.calls K6 m0 m1 m2 m3 m4 m5 m6 m7 m8 A1 c1 qs A2 c2 an A3 c3 ns A4 c4 ar f1 f2 f3 f4 f5 fs f7 w13 (Kd.C_below KM.out.2.1 Bx) LM.out.2.1 (Kd.C_below KM.out.2.2.1 Bx) LM.out.2.2.1 (Kd.C_below KM.out.2.2.2.1 Bx) LM.out.2.2.2.1 (Kd.C_below KM.out.2.2.2.2 Bx) LM.out.2.2.2.2 E.out.2.2.2.2.2.1
  go_wp2_with fail
  refine kA.mono ?_
  rintro e w14 ⟨v, rfl, RK, hb⟩
  have ubRK := Kd.R_lt RK
  have lbRK := Kd.R_base RK
  obtain ⟨ARK, cRK, rfl⟩ := Kd.R_slice RK
  have URK := Lib.hid (And.intro lbRK ubRK)
  clear lbRK ubRK
  have hsz := Lib.hid hb.size
  replace Bx := Bx.trans (hb.mono Bx.size)
  replace bo := blk_below bo hb
  replace br := blk_below br hb
  replace bm := blk_below bm hb
  replace bx := blk_below bx hb
  replace ba := blk_below ba hb
  replace bb := blk_below bb hb
  replace bc := blk_below bc hb
  replace bd := blk_below bd hb
  replace bi := blk_below bi hb
  replace RL := Kd.R_below RL hb
  replace RC := Kd.R_below RC hb
  replace RD := Kd.R_below RD hb
  replace RI := Kd.R_below RI hb
  clear y0 y1 y2 y3 y4 y5 y6 y7 y8 y9 y10 y11 y12
  clear hb kA
  have hb2 : Below w14.heap.size w14 (w14.alloc (.cells #[.int .i64 f1, .int .i64 f2, .int .i64 f3, .bool f4, .int .i64 f5, .slice ARK fs.length cRK] 24)) := (Below.refl _ _).alloc (Nat.le_refl _) _
  have bk := blk_new w14 (.cells #[.int .i64 f1, .int .i64 f2, .int .i64 f3, .bool f4, .int .i64 f5, .slice ARK fs.length cRK] 24)
  have z2 : (w14.alloc (.cells #[.int .i64 f1, .int .i64 f2, .int .i64 f3, .bool f4, .int .i64 f5, .slice ARK fs.length cRK] 24)).heap.size = w14.heap.size + 1 := by simp
  go_upto_region 9 with (fail)
  replace Bx := Bx.trans (hb2.mono Bx.size)
  replace bo := blk_below bo hb2
  replace br := blk_below br hb2
  replace bm := blk_below bm hb2
  replace bx := blk_below bx hb2
  replace ba := blk_below ba hb2
  replace bb := blk_below bb hb2
  replace bc := blk_below bc hb2
  replace bd := blk_below bd hb2
  replace bi := blk_below bi hb2
  replace RL := Kd.R_below RL hb2
  replace RC := Kd.R_below RC hb2
  replace RD := Kd.R_below RD hb2
  replace RI := Kd.R_below RI hb2
  replace RK := Kd.R_below RK hb2
  generalize w14.alloc (.cells #[.int .i64 f1, .int .i64 f2, .int .i64 f3, .bool f4, .int .i64 f5, .slice ARK fs.length cRK] 24) = w15 at *
  obtain ⟨gk, hg⟩ : ∃ k, k = w14.heap.size := ⟨_, rfl⟩
  rw [← hg] at bk ⊢
  have Z8a := Lib.hid (And.intro hg z2)
  clear hg hb2 z2
  have Z8 := Lib.hid (And.intro hsz.out Z8a.out)
  clear hsz Z8a
  have q1 : (p6 != p6) = false := by simp
  have q2 : (g7 != g7) = false := by simp
  have q3 : (f7 != f7) = false := by simp
  have a0 : w15.cell? ⟨ga, 0, none⟩ = some (.string p1) := (blk_cell ba 0).trans rfl
  have a1 : w15.cell? ⟨ga, 1, none⟩ = some (.int .i64 p2) := (blk_cell ba 1).trans rfl
  have a2 : w15.cell? ⟨ga, 2, none⟩ = some (.int .i64 p3) := (blk_cell ba 2).trans rfl
  have a3 : w15.cell? ⟨ga, 3, none⟩ = some (.int .i64 p4) := (blk_cell ba 3).trans rfl
  have a4 : w15.cell? ⟨ga, 4, none⟩ = some (.string p5) := (blk_cell ba 4).trans rfl
  have b0 : w15.cell? ⟨gb, 0, none⟩ = some (.string p1) := (blk_cell bb 0).trans rfl
  have b1 : w15.cell? ⟨gb, 1, none⟩ = some (.int .i64 p2) := (blk_cell bb 1).trans rfl
  have b2 : w15.cell? ⟨gb, 2, none⟩ = some (.int .i64 p3) := (blk_cell bb 2).trans rfl
  have b3 : w15.cell? ⟨gb, 3, none⟩ = some (.int .i64 p4) := (blk_cell bb 3).trans rfl
  have b4 : w15.cell? ⟨gb, 4, none⟩ = some (.string p5) := (blk_cell bb 4).trans rfl
  go_wp2_with fail
  refine (kN _ _).mono ?_
  rintro e w16 ⟨rfl, hb⟩
  replace Bx := Bx.trans (hb.mono Bx.size)
  replace bo := blk_below bo hb
  replace br := blk_below br hb
  replace bm := blk_below bm hb
  replace bx := blk_below bx hb
  replace ba := blk_below ba hb
  replace bb := blk_below bb hb
  replace bc := blk_below bc hb
  replace bd := blk_below bd hb
  replace bi := blk_below bi hb
  replace bk := blk_below bk hb
  replace RL := Kd.R_below RL hb
  replace RC := Kd.R_below RC hb
  replace RD := Kd.R_below RD hb
  replace RI := Kd.R_below RI hb
  replace RK := Kd.R_below RK hb
  clear a0 a1 a2 a3 a4 b0 b1 b2 b3 b4
  clear hb
  have a0 : w16.cell? ⟨gc, 0, none⟩ = some (.int .i64 g1) := (blk_cell bc 0).trans rfl
  have a1 : w16.cell? ⟨gc, 1, none⟩ = some (.int .i64 g2) := (blk_cell bc 1).trans rfl
  have a2 : w16.cell? ⟨gc, 2, none⟩ = some (.int .i64 g3) := (blk_cell bc 2).trans rfl
  have a3 : w16.cell? ⟨gc, 3, none⟩ = some (.bool g4) := (blk_cell bc 3).trans rfl
  have a4 : w16.cell? ⟨gc, 4, none⟩ = some (.int .i64 g5) := (blk_cell bc 4).trans rfl
  have a5 : w16.cell? ⟨gc, 5, none⟩ = some (.slice ARC os.length cRC) := (blk_cell bc 5).trans rfl
  have b0 : w16.cell? ⟨gd, 0, none⟩ = some (.int .i64 g1) := (blk_cell bd 0).trans rfl
  have b1 : w16.cell? ⟨gd, 1, none⟩ = some (.int .i64 g2) := (blk_cell bd 1).trans rfl
  have b2 : w16.cell? ⟨gd, 2, none⟩ = some (.int .i64 g3) := (blk_cell bd 2).trans rfl
  have b3 : w16.cell? ⟨gd, 3, none⟩ = some (.bool g4) := (blk_cell bd 3).trans rfl
  have b4 : w16.cell? ⟨gd, 4, none⟩ = some (.int .i64 g5) := (blk_cell bd 4).trans rfl
  have b5 : w16.cell? ⟨gd, 5, none⟩ = some (.slice ARD os.length cRD) := (blk_cell bd 5).trans rfl
  have kA := wimplelaw0_SameOpt.calls K8 g1 g2 g3 g4 g5 ARC cRC os g1 g2 g3 g4 g5 ARD cRD os true w16 (Kd.R_reads' RC).2.2 (Kd.R_reads' RC).2.1 (Kd.R_reads' RD).2.2 (Kd.R_reads' RD).2.1 E.out.2.2.2.2.2.2.2.1
  go_wp2_with fail
  refine kA.mono ?_
  rintro e w17 ⟨rfl, hb⟩
  replace Bx := Bx.trans (hb.mono Bx.size)
  replace bo := blk_below bo hb
  replace br := blk_below br hb
  replace bm := blk_below bm hb
  replace bx := blk_below bx hb
  replace ba := blk_below ba hb
  replace bb := blk_below bb hb
  replace bc := blk_below bc hb
  replace bd := blk_below bd hb
  replace bi := blk_below bi hb
  replace bk := blk_below bk hb
  replace RL := Kd.R_below RL hb
  replace RC := Kd.R_below RC hb
  replace RD := Kd.R_below RD hb
  replace RI := Kd.R_below RI hb
  replace RK := Kd.R_below RK hb
  clear a0 a1 a2 a3 a4 a5 b0 b1 b2 b3 b4 b5
  clear hb kA
  go_wp2_with fail
  refine (kN _ _).mono ?_
  rintro e w18 ⟨rfl, hb⟩
  replace Bx := Bx.trans (hb.mono Bx.size)
  replace bo := blk_below bo hb
  replace br := blk_below br hb
  replace bm := blk_below bm hb
  replace bx := blk_below bx hb
  replace ba := blk_below ba hb
  replace bb := blk_below bb hb
  replace bc := blk_below bc hb
  replace bd := blk_below bd hb
  replace bi := blk_below bi hb
  replace bk := blk_below bk hb
  replace RL := Kd.R_below RL hb
  replace RC := Kd.R_below RC hb
  replace RD := Kd.R_below RD hb
  replace RI := Kd.R_below RI hb
  replace RK := Kd.R_below RK hb
  clear hb
  have a0 : w18.cell? ⟨gi, 0, none⟩ = some (.int .i64 f1) := (blk_cell bi 0).trans rfl
  have a1 : w18.cell? ⟨gi, 1, none⟩ = some (.int .i64 f2) := (blk_cell bi 1).trans rfl
  have a2 : w18.cell? ⟨gi, 2, none⟩ = some (.int .i64 f3) := (blk_cell bi 2).trans rfl
  have a3 : w18.cell? ⟨gi, 3, none⟩ = some (.bool f4) := (blk_cell bi 3).trans rfl
  have a4 : w18.cell? ⟨gi, 4, none⟩ = some (.int .i64 f5) := (blk_cell bi 4).trans rfl
  have a5 : w18.cell? ⟨gi, 5, none⟩ = some (.slice ARI fs.length cRI) := (blk_cell bi 5).trans rfl
  have b0 : w18.cell? ⟨gk, 0, none⟩ = some (.int .i64 f1) := (blk_cell bk 0).trans rfl
  have b1 : w18.cell? ⟨gk, 1, none⟩ = some (.int .i64 f2) := (blk_cell bk 1).trans rfl
  have b2 : w18.cell? ⟨gk, 2, none⟩ = some (.int .i64 f3) := (blk_cell bk 2).trans rfl
  have b3 : w18.cell? ⟨gk, 3, none⟩ = some (.bool f4) := (blk_cell bk 3).trans rfl
  have b4 : w18.cell? ⟨gk, 4, none⟩ = some (.int .i64 f5) := (blk_cell bk 4).trans rfl
  have b5 : w18.cell? ⟨gk, 5, none⟩ = some (.slice ARK fs.length cRK) := (blk_cell bk 5).trans rfl
  have kA := wimplelaw0_SameOpt.calls K9 f1 f2 f3 f4 f5 ARI cRI fs f1 f2 f3 f4 f5 ARK cRK fs true w18 (Kd.R_reads' RI).2.2 (Kd.R_reads' RI).2.1 (Kd.R_reads' RK).2.2 (Kd.R_reads' RK).2.1 E.out.2.2.2.2.2.2.2.2.1
  go_wp2_with fail
  refine kA.mono ?_
  rintro e w19 ⟨rfl, hb⟩
  replace Bx := Bx.trans (hb.mono Bx.size)
  replace bo := blk_below bo hb
  replace br := blk_below br hb
  replace bm := blk_below bm hb
  replace bx := blk_below bx hb
  replace ba := blk_below ba hb
  replace bb := blk_below bb hb
  replace bc := blk_below bc hb
  replace bd := blk_below bd hb
  replace bi := blk_below bi hb
  replace bk := blk_below bk hb
  replace RL := Kd.R_below RL hb
  replace RC := Kd.R_below RC hb
  replace RD := Kd.R_below RD hb
  replace RI := Kd.R_below RI hb
  replace RK := Kd.R_below RK hb
  clear a0 a1 a2 a3 a4 a5 b0 b1 b2 b3 b4 b5
  clear hb kA
  have a5 : w19.cell? ⟨gx, 5, none⟩ = some (.slice Af l.length cf) := (blk_cell bx 5).trans rfl
  have b5 : w19.cell? ⟨go, 5, none⟩ = some (.slice A l.length c) := (blk_cell bo 5).trans rfl
  have kA := kept l HL.out Af A cf c w19 _ _ RL (Kd.C_below KM.out.1 Bx) LM.out.1
  go_wp2_with fail
  refine kA.mono ?_
  rintro e w20 ⟨rfl, hb⟩
  replace Bx := Bx.trans (hb.mono Bx.size)
  replace bo := blk_below bo hb
  replace br := blk_below br hb
  replace bm := blk_below bm hb
  replace bx := blk_below bx hb
  replace ba := blk_below ba hb
  replace bb := blk_below bb hb
  replace bc := blk_below bc hb
  replace bd := blk_below bd hb
  replace bi := blk_below bi hb
  replace bk := blk_below bk hb
  replace RL := Kd.R_below RL hb
  replace RC := Kd.R_below RC hb
  replace RD := Kd.R_below RD hb
  replace RI := Kd.R_below RI hb
  replace RK := Kd.R_below RK hb
  clear a5 b5
  clear hb kA
  clear q1 q2 q3 hER
  have a5 : w20.cell? ⟨gc, 5, none⟩ = some (.slice ARC os.length cRC) := (blk_cell bc 5).trans rfl
  have kA := wimplelaw0_SpoilOptions.calls Ka (fun k => (.slice ARC os.length cRC : Value).ownBlock = some k) (.slice ARC os.length cRC) os ro w w20 Bx (Kd.R_lower (r_ok RC (ok' := fun k => (.slice ARC os.length cRC : Value).ownBlock = some k) (fun k hk => hk)) (by have a0 := Z0.out; have a1 := Z1.out; have a2 := Z2.out; have a3 := Z3.out; have a4 := Z4.out; have a5 := Z5.out; have a6 := Z6.out; have a7 := Z7.out; have a8 := Z8.out; omega)) E.out.2.2.2.2.2.2.2.2.2.1
  go_wp2_with fail
  refine kA.mono ?_
  rintro e w21 ⟨rfl, -, hB, hK⟩
  replace Bx := hB
  replace br := blk_kept br hK (fun hk => by have h := URC.out.1 _ hk; have a0 := Z0.out; have a1 := Z1.out; have a2 := Z2.out; have a3 := Z3.out; have a4 := Z4.out; have a5 := Z5.out; have a6 := Z6.out; have a7 := Z7.out; have a8 := Z8.out; omega)
  replace bd := blk_kept bd hK (fun hk => by have h := URC.out.2 _ hk; have a0 := Z0.out; have a1 := Z1.out; have a2 := Z2.out; have a3 := Z3.out; have a4 := Z4.out; have a5 := Z5.out; have a6 := Z6.out; have a7 := Z7.out; have a8 := Z8.out; omega)
  replace bi := blk_kept bi hK (fun hk => by have h := URC.out.2 _ hk; have a0 := Z0.out; have a1 := Z1.out; have a2 := Z2.out; have a3 := Z3.out; have a4 := Z4.out; have a5 := Z5.out; have a6 := Z6.out; have a7 := Z7.out; have a8 := Z8.out; omega)
  replace RD := Kd.R_kept (r_ok RD (ok' := fun k => w9.heap.size ≤ k) (fun k hk => by have h := URD.out.1 _ hk; exact h)) hK (fun k h hk => by have h2 := URC.out.2 _ hk; have a0 := Z0.out; have a1 := Z1.out; have a2 := Z2.out; have a3 := Z3.out; have a4 := Z4.out; have a5 := Z5.out; have a6 := Z6.out; have a7 := Z7.out; have a8 := Z8.out; omega)
  replace RI := Kd.R_kept (r_ok RI (ok' := fun k => w11.heap.size ≤ k) (fun k hk => by have h := URI.out.1 _ hk; exact h)) hK (fun k h hk => by have h2 := URC.out.2 _ hk; have a0 := Z0.out; have a1 := Z1.out; have a2 := Z2.out; have a3 := Z3.out; have a4 := Z4.out; have a5 := Z5.out; have a6 := Z6.out; have a7 := Z7.out; have a8 := Z8.out; omega)
  clear a5
  clear hB hK kA
  have a5 : w21.cell? ⟨gi, 5, none⟩ = some (.slice ARI fs.length cRI) := (blk_cell bi 5).trans rfl
  have kA := wimplelaw0_SpoilOptions.calls Kb (fun k => (.slice ARI fs.length cRI : Value).ownBlock = some k) (.slice ARI fs.length cRI) fs rf w w21 Bx (Kd.R_lower (r_ok RI (ok' := fun k => (.slice ARI fs.length cRI : Value).ownBlock = some k) (fun k hk => hk)) (by have a0 := Z0.out; have a1 := Z1.out; have a2 := Z2.out; have a3 := Z3.out; have a4 := Z4.out; have a5 := Z5.out; have a6 := Z6.out; have a7 := Z7.out; have a8 := Z8.out; omega)) E.out.2.2.2.2.2.2.2.2.2.2
  go_wp2_with fail
  refine kA.mono ?_
  rintro e w22 ⟨rfl, -, hB, hK⟩
  replace Bx := hB
  replace br := blk_kept br hK (fun hk => by have h := URI.out.1 _ hk; have a0 := Z0.out; have a1 := Z1.out; have a2 := Z2.out; have a3 := Z3.out; have a4 := Z4.out; have a5 := Z5.out; have a6 := Z6.out; have a7 := Z7.out; have a8 := Z8.out; omega)
  replace bd := blk_kept bd hK (fun hk => by have h := URI.out.1 _ hk; have a0 := Z0.out; have a1 := Z1.out; have a2 := Z2.out; have a3 := Z3.out; have a4 := Z4.out; have a5 := Z5.out; have a6 := Z6.out; have a7 := Z7.out; have a8 := Z8.out; omega)
  replace RD := Kd.R_kept (r_ok RD (ok' := fun k => k < w10.heap.size) (fun k hk => by have h := URD.out.2 _ hk; exact h)) hK (fun k h hk => by have h2 := URI.out.1 _ hk; have a0 := Z0.out; have a1 := Z1.out; have a2 := Z2.out; have a3 := Z3.out; have a4 := Z4.out; have a5 := Z5.out; have a6 := Z6.out; have a7 := Z7.out; have a8 := Z8.out; omega)
  clear a5
  clear hB hK kA
  have r0 : w22.cell? ⟨gr, 0, none⟩ = some (.string n) := (blk_cell br 0).trans rfl
  have r1 : w22.cell? ⟨gr, 1, none⟩ = some (.int .i64 t) := (blk_cell br 1).trans rfl
  have r2 : w22.cell? ⟨gr, 2, none⟩ = some (.int .i64 cl) := (blk_cell br 2).trans rfl
  have r3 : w22.cell? ⟨gr, 3, none⟩ = some (.int .i64 ttl) := (blk_cell br 3).trans rfl
  have r4 : w22.cell? ⟨gr, 4, none⟩ = some (.string d) := (blk_cell br 4).trans rfl
  have kA := opt_Get.calls K3 n t cl ttl d g1 g2 g3 g4 g5 os g7 w22 E.out.2.2.1
  go_wp2_with fail
  refine kA.mono ?_
  rintro e w23 ⟨v, rfl, RQ, hb⟩
  have ubRQ := Kd.R_lt RQ
  have lbRQ := Kd.R_base RQ
  obtain ⟨ARQ, cRQ, rfl⟩ := Kd.R_slice RQ
  have URQ := Lib.hid (And.intro lbRQ ubRQ)
  clear lbRQ ubRQ
  have hsz := Lib.hid hb.size
  replace Bx := Bx.trans (hb.mono Bx.size)
  replace br := blk_below br hb
  replace bd := blk_below bd hb
  replace RD := Kd.R_below RD hb
  clear r0 r1 r2 r3 r4
  clear hb kA
  have hb2 : Below w23.heap.size w23 (w23.alloc (.cells #[.int .i64 g1, .int .i64 g2, .int .i64 g3, .bool g4, .int .i64 g5, .slice ARQ os.length cRQ] 24)) := (Below.refl _ _).alloc (Nat.le_refl _) _
  have bq := blk_new w23 (.cells #[.int .i64 g1, .int .i64 g2, .int .i64 g3, .bool g4, .int .i64 g5, .slice ARQ os.length cRQ] 24)
  have z2 : (w23.alloc (.cells #[.int .i64 g1, .int .i64 g2, .int .i64 g3, .bool g4, .int .i64 g5, .slice ARQ os.length cRQ] 24)).heap.size = w23.heap.size + 1 := by simp
  go_upto_region 14 with (fail)
  replace Bx := Bx.trans (hb2.mono Bx.size)
  replace br := blk_below br hb2
  replace bd := blk_below bd hb2
  replace RD := Kd.R_below RD hb2
  replace RQ := Kd.R_below RQ hb2
  generalize w23.alloc (.cells #[.int .i64 g1, .int .i64 g2, .int .i64 g3, .bool g4, .int .i64 g5, .slice ARQ os.length cRQ] 24) = w24 at *
  obtain ⟨gq, hg⟩ : ∃ k, k = w23.heap.size := ⟨_, rfl⟩
  rw [← hg] at bq ⊢
  have Z9a := Lib.hid (And.intro hg z2)
  clear hg hb2 z2
  have Z9 := Lib.hid (And.intro hsz.out Z9a.out)
  clear hsz Z9a
  have a0 : w24.cell? ⟨gq, 0, none⟩ = some (.int .i64 g1) := (blk_cell bq 0).trans rfl
  have a1 : w24.cell? ⟨gq, 1, none⟩ = some (.int .i64 g2) := (blk_cell bq 1).trans rfl
  have a2 : w24.cell? ⟨gq, 2, none⟩ = some (.int .i64 g3) := (blk_cell bq 2).trans rfl
  have a3 : w24.cell? ⟨gq, 3, none⟩ = some (.bool g4) := (blk_cell bq 3).trans rfl
  have a4 : w24.cell? ⟨gq, 4, none⟩ = some (.int .i64 g5) := (blk_cell bq 4).trans rfl
  have a5 : w24.cell? ⟨gq, 5, none⟩ = some (.slice ARQ os.length cRQ) := (blk_cell bq 5).trans rfl
  have b0 : w24.cell? ⟨gd, 0, none⟩ = some (.int .i64 g1) := (blk_cell bd 0).trans rfl
  have b1 : w24.cell? ⟨gd, 1, none⟩ = some (.int .i64 g2) := (blk_cell bd 1).trans rfl
  have b2 : w24.cell? ⟨gd, 2, none⟩ = some (.int .i64 g3) := (blk_cell bd 2).trans rfl
  have b3 : w24.cell? ⟨gd, 3, none⟩ = some (.bool g4) := (blk_cell bd 3).trans rfl
  have b4 : w24.cell? ⟨gd, 4, none⟩ = some (.int .i64 g5) := (blk_cell bd 4).trans rfl
  have b5 : w24.cell? ⟨gd, 5, none⟩ = some (.slice ARD os.length cRD) := (blk_cell bd 5).trans rfl
  have kA := wimplelaw0_SameOpt.calls K8 g1 g2 g3 g4 g5 ARQ cRQ os g1 g2 g3 g4 g5 ARD cRD os true w24 (Kd.R_reads' RQ).2.2 (Kd.R_reads' RQ).2.1 (Kd.R_reads' RD).2.2 (Kd.R_reads' RD).2.1 E.out.2.2.2.2.2.2.2.1
  go_wp2_with fail
  refine kA.mono ?_
  rintro e w25 ⟨rfl, hb⟩
  replace Bx := Bx.trans (hb.mono Bx.size)
  replace br := blk_below br hb
  replace bd := blk_below bd hb
  replace bq := blk_below bq hb
  replace RD := Kd.R_below RD hb
  replace RQ := Kd.R_below RQ hb
  clear a0 a1 a2 a3 a4 a5 b0 b1 b2 b3 b4 b5
  clear hb kA
  have kA := wimplelaw8_awake.calls K7 true w25 E.out.2.2.2.2.2.2.1
  go_wp2_with fail
  refine kA.mono ?_
  rintro e w26 ⟨rfl, hb⟩
  replace Bx := Bx.trans (hb.mono Bx.size)
  replace br := blk_below br hb
  replace bd := blk_below bd hb
  replace bq := blk_below bq hb
  replace RD := Kd.R_below RD hb
  replace RQ := Kd.R_below RQ hb
  clear hb kA
  go_wp2_with fail
  go_ret
  exact ⟨rfl, Bx⟩
end Go.Proofs.Ytndcjleadggibaa.OptsW

namespace Go.Proofs.Ytndcjleadggibaa.OptsH
open Go.RowKit Go.Proofs.YtndcjleadggibaaW.PrintWords Go.Proofs.Ytndcjleadggibaa.POz Go.Proofs.Ytndcjleadggibaa.OpenKd Go.Proofs.Ytndcjleadggibaa.OkOz
set_option linter.unusedVariables false
theorem len_bks {α : Type} (f : α → Nat) (hf : ∀ x, 1 ≤ f x) (l : List α) : l.length ≤ bks f l := by
  have : l.length ≤ (l.map f).sum := by
    induction l with
    | nil => simp
    | cons x l ih => rw [List.map_cons, List.sum_cons, List.length_cons]; have := hf x; omega
  unfold bks; omega
theorem mem_bks {α : Type} (f : α → Nat) {l : List α} {x : α} (h : x ∈ l) : f x ≤ bks f l := by
  have : f x ≤ (l.map f).sum := by
    induction l with
    | nil => cases h
    | cons y l ih =>
      rw [List.map_cons, List.sum_cons]
      rcases List.mem_cons.1 h with rfl | h
      · omega
      · have := ih h; omega
  unfold bks; omega
set_option maxRecDepth 100000 in
theorem hcalls (x : S24) (r : S26) (m : S32) (W : World) (A : Option Addr) (c : Nat) (A1 : Option Addr) (c1 : Nat) (A2 : Option Addr) (c2 : Nat) (A3 : Option Addr) (c3 : Nat) (A4 : Option Addr) (c4 : Nat)
    (k0 : Kd.C k52 W A x.f5.length x.f5) (l0 : x.f5.length ≤ c) (k1 : Kd.C k124 W A1 m.f1.length m.f1) (l1 : m.f1.length ≤ c1) (k2 : Kd.C k26 W A2 m.f2.length m.f2) (l2 : m.f2.length ≤ c2) (k3 : Kd.C k26 W A3 m.f3.length m.f3) (l3 : m.f3.length ≤ c3) (k4 : Kd.C k26 W A4 m.f4.length m.f4) (l4 : m.f4.length ≤ c4)
    (ox : ok24 x) (or' : ok26 r) (om : ok32 m) (hb : bk24 x + bk26 r + bk32 m ≤ 1048576) :
    Calls Try.prog 3 #[.agg #[.int .i64 x.f0, .int .i64 x.f1, .int .i64 x.f2, .bool x.f3, .int .i64 x.f4, .slice A x.f5.length c], .agg #[.string r.f0, .int .i64 r.f1, .int .i64 r.f2, .int .i64 r.f3, .string r.f4], .agg #[.int .i64 m.f0.f0, .bool m.f0.f1, .int .i64 m.f0.f2, .bool m.f0.f3, .bool m.f0.f4, .bool m.f0.f5, .bool m.f0.f6, .int .i64 m.f0.f7, .int .i64 m.f0.f8, .slice A1 m.f1.length c1, .slice A2 m.f2.length c2, .slice A3 m.f3.length c3, .slice A4 m.f4.length c4]] W fun e w' => e = .returned (.bool true) ∧ Below W.heap.size W w' := by
  have h1 : bks bk52 x.f5 ≤ 1048576 := by unfold bk24 at hb; omega
  have h2 : bks bk26 m.f4 ≤ 1048576 := by unfold bk32 at hb; omega
  refine OptsW.walk x.f0 x.f1 x.f2 x.f3 x.f4 A c x.f5 r.f0 r.f1 r.f2 r.f3 r.f4 m.f0.f0 m.f0.f1 m.f0.f2 m.f0.f3 m.f0.f4 m.f0.f5 m.f0.f6 m.f0.f7 m.f0.f8 A1 c1 m.f1 A2 c2 m.f2 A3 c3 m.f3 A4 c4 m.f4 W
    (Nat.le_trans (len_bks bk52 (fun y => by unfold bk52; omega) _) h1) (by unfold bk26 at hb; omega) (Nat.le_trans (len_bks bk26 (fun y => by unfold bk26; omega) _) h2) (fun y hy => by have := mem_bks bk26 hy; unfold bk26 at this h2; omega)
    k0 l0 k1 l1 k2 l2 k3 l3 k4 l4
end Go.Proofs.Ytndcjleadggibaa.OptsH

namespace Go.Proofs.Ytndcjleadggibaa.opts
open Go.ChangeShapes Go.WideShapes Go.ChangeAt Go.RowKit Go.Proofs.YtndcjleadggibaaW.PrintWords Go.Proofs.Ytndcjleadggibaa.POz Go.Proofs.Ytndcjleadggibaa.OpenKd Go.Proofs.Ytndcjleadggibaa.OkOz
open Go.ChangeMaps (open_string shut_string)
set_option linter.unusedVariables false
theorem own : ownKnob Try.prog.godebug = none := by kernel_rfl
theorem laidOut : laidOutB Try.prog = true := by kernel_rfl
set_option maxRecDepth 100000 in
theorem contract (H : Type) (enc : TypeId × Value → H) (W : World) (base : Nat) (args : Array Value) (ds gs : List (DataW H)) (before : List MemPlace)
    (hval : ∀ (j : Nat) t v, Try.f3.params[j]? = some t → args[j]? = some v → Value.okWide Try.prog W .any base t v)
    (hW : DataW.Whole enc Try.prog Try.f3.params.toList Rows.optsSpec.vars false W args.toList ds gs before) (hk : Rows.uptoSmall H (ds ++ gs) = true) :
    Calls Try.prog 3 args W fun e W' => ∃ v, e = .returned v ∧ Rows.optsSpec.post enc Try.prog Try.f3 false true false false W args v W' := by
  have hW' := hW
  obtain ⟨p, q, hA0, hV, rfl, hfz, hnd⟩ := hW
  have hA : DataW.TrodAll enc Try.prog W 0 (fun _ => true) true Try.f3.params.toList args.toList ds p := hA0
  rw [Try.params3] at hA hval
  obtain ⟨v0, vs0, d0, ds0, p0, q0, hargs, rfl, rfl, h0, r0⟩ := trodAll_cons hA
  obtain ⟨v1, vs1, d1, ds1, p1, q1, rfl, rfl, rfl, h1, r1⟩ := trodAll_cons r0
  obtain ⟨v2, vs2, d2, ds2, p2, q2, rfl, rfl, rfl, h2, r2⟩ := trodAll_cons r1
  obtain ⟨rfl, rfl, rfl⟩ := trodAll_nil r2
  obtain rfl : args = #[v0, v1, v2] := by cases args; simp_all
  obtain ⟨rfl, rfl⟩ := trodVars_none hV
  have k0 := h0
  have lt0 : ∀ x ∈ p0, x.block < W.heap.size := by obtain ⟨m, hm⟩ := k0; exact DataW.trod_lt m _ _ _ hm
  obtain ⟨fuel0, hf0⟩ := h0
  obtain ⟨cs0, rfl, hs0⟩ := okWide_struct Try.underlying24 (hval 0 24 v0 rfl rfl)
  have hf0' : DataW.trod enc Try.prog W 0 (fun _ => true) true fuel0 24 cs0.toList = some (d0, p0) := by simpa [Value.cells] using hf0
  obtain ⟨x0, e0, o0, b0⟩ := opens24 enc W 0 (fun _ => true) true _ _ _ hf0'
  have e0' := e0
  generalize hcs0 : cs0.toList = l0 at e0'
  obtain ⟨z0_0, t0_0, rfl, g0_0, r0_0⟩ := e0'
  obtain rfl := g0_0
  obtain ⟨z0_1, t0_1, rfl, g0_1, r0_1⟩ := r0_0
  obtain rfl := g0_1
  obtain ⟨z0_2, t0_2, rfl, g0_2, r0_2⟩ := r0_1
  obtain rfl := g0_2
  obtain ⟨z0_3, t0_3, rfl, g0_3, r0_3⟩ := r0_2
  obtain rfl := g0_3
  obtain ⟨z0_4, t0_4, rfl, g0_4, r0_4⟩ := r0_3
  obtain rfl := g0_4
  obtain ⟨A0_5, c0_5, rfl, hl0_5, hC0_5⟩ := r0_4
  obtain rfl : cs0 = #[.int .i64 x0.f0, .int .i64 x0.f1, .int .i64 x0.f2, .bool x0.f3, .int .i64 x0.f4, .slice A0_5 x0.f5.length c0_5] := by apply Array.ext'; simpa using hcs0
  have k1 := h1
  have lt1 : ∀ x ∈ p1, x.block < W.heap.size := by obtain ⟨m, hm⟩ := k1; exact DataW.trod_lt m _ _ _ hm
  obtain ⟨fuel1, hf1⟩ := h1
  obtain ⟨cs1, rfl, hs1⟩ := okWide_struct Try.underlying26 (hval 1 26 v1 rfl rfl)
  have hf1' : DataW.trod enc Try.prog W 0 (fun _ => true) true fuel1 26 cs1.toList = some (d1, p1) := by simpa [Value.cells] using hf1
  obtain ⟨x1, e1, o1, b1⟩ := opens26 enc W 0 (fun _ => true) true _ _ _ hf1'
  have e1' := e1
  generalize hcs1 : cs1.toList = l1 at e1'
  obtain ⟨z1_0, t1_0, rfl, g1_0, r1_0⟩ := e1'
  obtain rfl := g1_0
  obtain ⟨z1_1, t1_1, rfl, g1_1, r1_1⟩ := r1_0
  obtain rfl := g1_1
  obtain ⟨z1_2, t1_2, rfl, g1_2, r1_2⟩ := r1_1
  obtain rfl := g1_2
  obtain ⟨z1_3, t1_3, rfl, g1_3, r1_3⟩ := r1_2
  obtain rfl := g1_3
  obtain rfl := r1_3
  obtain rfl : cs1 = #[.string x1.f0, .int .i64 x1.f1, .int .i64 x1.f2, .int .i64 x1.f3, .string x1.f4] := by apply Array.ext'; simpa using hcs1
  have k2 := h2
  have lt2 : ∀ x ∈ p2, x.block < W.heap.size := by obtain ⟨m, hm⟩ := k2; exact DataW.trod_lt m _ _ _ hm
  obtain ⟨fuel2, hf2⟩ := h2
  obtain ⟨cs2, rfl, hs2⟩ := okWide_struct Try.underlying32 (hval 2 32 v2 rfl rfl)
  have hf2' : DataW.trod enc Try.prog W 0 (fun _ => true) true fuel2 32 cs2.toList = some (d2, p2) := by simpa [Value.cells] using hf2
  obtain ⟨x2, e2, o2, b2⟩ := opens32 enc W 0 (fun _ => true) true _ _ _ hf2'
  have e2' := e2
  generalize hcs2 : cs2.toList = l2 at e2'
  obtain ⟨z2_0, t2_0, rfl, g2_0, r2_0⟩ := e2'
  obtain ⟨z2_0_0, t2_0_0, rfl, g2_0_0, r2_0_0⟩ := g2_0
  obtain rfl := g2_0_0
  obtain ⟨z2_0_1, t2_0_1, rfl, g2_0_1, r2_0_1⟩ := r2_0_0
  obtain rfl := g2_0_1
  obtain ⟨z2_0_2, t2_0_2, rfl, g2_0_2, r2_0_2⟩ := r2_0_1
  obtain rfl := g2_0_2
  obtain ⟨z2_0_3, t2_0_3, rfl, g2_0_3, r2_0_3⟩ := r2_0_2
  obtain rfl := g2_0_3
  obtain ⟨z2_0_4, t2_0_4, rfl, g2_0_4, r2_0_4⟩ := r2_0_3
  obtain rfl := g2_0_4
  obtain ⟨z2_0_5, t2_0_5, rfl, g2_0_5, r2_0_5⟩ := r2_0_4
  obtain rfl := g2_0_5
  obtain ⟨z2_0_6, t2_0_6, rfl, g2_0_6, r2_0_6⟩ := r2_0_5
  obtain rfl := g2_0_6
  obtain ⟨z2_0_7, t2_0_7, rfl, g2_0_7, r2_0_7⟩ := r2_0_6
  obtain rfl := g2_0_7
  obtain rfl := r2_0_7
  obtain ⟨z2_1, t2_1, rfl, g2_1, r2_1⟩ := r2_0
  obtain ⟨A2_1, c2_1, rfl, hl2_1, hC2_1⟩ := g2_1
  obtain ⟨z2_2, t2_2, rfl, g2_2, r2_2⟩ := r2_1
  obtain ⟨A2_2, c2_2, rfl, hl2_2, hC2_2⟩ := g2_2
  obtain ⟨z2_3, t2_3, rfl, g2_3, r2_3⟩ := r2_2
  obtain ⟨A2_3, c2_3, rfl, hl2_3, hC2_3⟩ := g2_3
  obtain ⟨A2_4, c2_4, rfl, hl2_4, hC2_4⟩ := r2_3
  obtain rfl : cs2 = #[.int .i64 x2.f0.f0, .bool x2.f0.f1, .int .i64 x2.f0.f2, .bool x2.f0.f3, .bool x2.f0.f4, .bool x2.f0.f5, .bool x2.f0.f6, .int .i64 x2.f0.f7, .int .i64 x2.f0.f8, .slice A2_1 x2.f1.length c2_1, .slice A2_2 x2.f2.length c2_2, .slice A2_3 x2.f3.length c2_3, .slice A2_4 x2.f4.length c2_4] := by apply Array.ext'; simpa using hcs2
  have hbulk : bk24 x0 + bk26 x1 + bk32 x2 ≤ 1048576 := by
    have hk' : Rows.uptoBulkAll ([d0, d1, d2] : List (DataW H)) ≤ 1048576 := by simpa using (of_decide_eq_true hk : Rows.uptoBulkAll _ ≤ 1048576)
    simp only [Rows.uptoBulkAll] at hk'
    skip
    have b0' : bk24 x0 ≤ Rows.uptoBulk d0 := b0; have b1' : bk26 x1 ≤ Rows.uptoBulk d1 := b1; have b2' : bk32 x2 ≤ Rows.uptoBulk d2 := b2
    omega
  clear hA0
  refine (OptsH.hcalls x0 x1 x2 W A0_5 c0_5 A2_1 c2_1 A2_2 c2_2 A2_3 c2_3 A2_4 c2_4 hC0_5 hl0_5 hC2_1 hl2_1 hC2_2 hl2_2 hC2_3 hl2_3 hC2_4 hl2_4 o0 o1 o2 hbulk).mono fun e W' ⟨he, hd⟩ => ?_
  have bel : Below W.heap.size W W' := hd
  subst he
  exact ⟨_, rfl, _, _, _, [], _, [], hW', trodAll_mk1 (shut_bool Try.underlying4 _), (trodAll_cons_mk (Below.trod laidOut (by kernel_rfl) (of_decide_eq_true (by kernel_rfl)) k0 bel lt0) (trodAll_cons_mk (Below.trod laidOut (by kernel_rfl) (of_decide_eq_true (by kernel_rfl)) k1 bel lt1) (trodAll_cons_mk (Below.trod laidOut (by kernel_rfl) (of_decide_eq_true (by kernel_rfl)) k2 bel lt2) trodAll_mk0))), rfl, bel.frame _, fun h => by cases h⟩
set_option maxRecDepth 100000 in
theorem lifted (os : Os) (started : os.Started) (H : Type) (enc : TypeId × Value → H) (F : Stop.Interp) :
    ReturnsInHanded {} Try.checked os 3 .any ((Rows.OpenSpec.upto Rows.optsSpec).pre6 enc Try.prog Try.f3 Rows.optsUptoRow.domain false) (((Rows.OpenSpec.upto Rows.optsSpec).at F).post enc Try.prog Try.f3 false true false false) := by
  refine returnsInHanded_of_cond (C := Try.checked) (s := Rows.OpenSpec.upto Rows.optsSpec) (k := Rows.uptoSmall) rfl own started (by kernel_rfl) Try.func3
    (OpenSpec.witness (enc := enc) (C := Try.checked) (s := Rows.OpenSpec.upto Rows.optsSpec) (k := Rows.uptoSmall) rfl false ⟨#[], #[.agg #[.int .i64 0, .int .i64 0, .int .i64 0, .bool false, .int .i64 0, .slice none 0 0], .agg #[.string ByteArray.empty, .int .i64 0, .int .i64 0, .int .i64 0, .string ByteArray.empty], .agg #[.int .i64 0, .bool false, .int .i64 0, .bool false, .bool false, .bool false, .bool false, .int .i64 0, .int .i64 0, .slice none 0 0, .slice none 0 0, .slice none 0 0, .slice none 0 0]], []⟩ 8 (by kernel_rfl) (by kernel_rfl) (by kernel_rfl)
      (x := ([.agg [.lit (.int .i64 0), .lit (.int .i64 0), .lit (.int .i64 0), .lit (.bool false), .lit (.int .i64 0), .nil], .agg [.lit (.string []), .lit (.int .i64 0), .lit (.int .i64 0), .lit (.int .i64 0), .lit (.string [])], .agg [.agg [.lit (.int .i64 0), .lit (.bool false), .lit (.int .i64 0), .lit (.bool false), .lit (.bool false), .lit (.bool false), .lit (.bool false), .lit (.int .i64 0), .lit (.int .i64 0)], .nil, .nil, .nil, .nil]], [], [])) (by kernel_rfl) rfl (by kernel_rfl)) ?_
  intro W base args ds gs before hval hW _ hk _
  exact contract H enc W base args ds gs before hval hW hk
theorem proved : Rows.OptsUptoSaid :=
  OpenClaim.holds_of_cond 3 Try.f3 rfl rfl rfl rfl rfl rfl rfl ⟨rfl, rfl, rfl, rfl, rfl⟩ rfl rfl rfl rfl rfl (by kernel_rfl) Try.func3 (by kernel_rfl)
    (of_decide_eq_true (by kernel_rfl)) (by unfold Func.isWrapper; first | (rw [if_pos (by decide +kernel)]; kernel_rfl) | (rw [if_neg (by decide +kernel)]; exact ⟨rfl, rfl⟩))
    (fun os started H enc _ F => lifted os started H enc F)
end Go.Proofs.Ytndcjleadggibaa.opts
namespace Go.Proofs.Ytndcjleadggibaa
theorem opts_holds : Rows.OptsUptoSaid := opts.proved
end Go.Proofs.Ytndcjleadggibaa
