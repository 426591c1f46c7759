/- wire's reader: number, question, record: what each answers, and what it leaves in the reader. -/
import Derived.BigQuiet
import Derived.Lib.QuietBelow
import Derived.Deep.RegionWith
import Derived.Deep.RegionHeld3
import Derived.Deep.CutBlock
import Derived.Deep.RegionLaw
import Derived.Lib.Hide
import Derived.Lib.ConvBytes
import Derived.Laws.IdiomStrings
import Derived.Shelf.Strings.Builder1
import Derived.Test.YtjklgdpffmaamaaSq1
import Derived.Test.YtjklgdpffmaamaaSq2
namespace Go.Proofs.Ytjklgdpffmaamaa.PCm
open Go.RowKit Go.Proofs.YtjklgdpffmaamaaW.PrintWords Go.Proofs.YtjklgdpffmaamaaW.PrintLast Go.Proofs.YtjklgdpffmaamaaW.PrintMore
attribute [local go_sem] max2_int min2_int max_two min_two max_three min_three max_four min_four   -- for this text's walks alone
set_option linter.unusedVariables false
set_option linter.unusedSimpArgs false

/-! ### comp_Name: function 94 -/
mutual
def comp_Name.l0 : Nat → ByteArray → Int → List Int → Int → Int → Option (ByteArray × Int × Int)
  | 0, _, _, _, _, _ => none
  | k + 1, x0, x1, x7, x8, x9 => if x1 < (x0.size : Int) then (comp_Name.j1 k x0 x1 x7 x8 x9 (decide ((x7.length : Int) < 255))) else (comp_Name.j1 k x0 x1 x7 x8 x9 false)
def comp_Name.j1 : Nat → ByteArray → Int → List Int → Int → Int → Bool → Option (ByteArray × Int × Int)
  | 0, _, _, _, _, _, _ => none
  | k + 1, x0, x1, x7, x8, x9, x23 => if x23 = true then (if 0 ≤ x1 then (if x1 < (x0.size : Int) then (if (wrap64 (bt x0 x1)) = 0 then (if x9 < 0 then (if x7.length < 140737488355328 then (some (strOfNums (x7 ++ [0]), wrap64 (x1 + 1), 0)) else (none)) else (if x7.length < 140737488355328 then (some (strOfNums (x7 ++ [0]), x9, 0)) else (none))) else (if (wrap64 (bt x0 x1)) ≤ 63 then (comp_Name.j2 k x0 x1 x7 x8 x9 (wrap64 (bt x0 x1)) (decide ((wrap64 (bt x0 x1)) < (wrap64 ((x0.size : Int) - x1))))) else (comp_Name.j2 k x0 x1 x7 x8 x9 (wrap64 (bt x0 x1)) false))) else (none)) else (none)) else (some ((⟨#[]⟩ : ByteArray), 0, 500))
def comp_Name.j2 : Nat → ByteArray → Int → List Int → Int → Int → Int → Bool → Option (ByteArray × Int × Int)
  | 0, _, _, _, _, _, _, _ => none
  | k + 1, x0, x1, x7, x8, x9, x10, x40 => if x40 = true then (if 0 ≤ x1 then (if x1 ≤ (wrap64 ((wrap64 (x1 + 1)) + x10)) then (if (wrap64 ((wrap64 (x1 + 1)) + x10)) ≤ (x0.size : Int) then (if x7.length + (x0.extract (x1 : Int).toNat ((wrap64 ((wrap64 (x1 + 1)) + x10)) : Int).toNat).size < 140737488355328 then (comp_Name.l0 k x0 (wrap64 (x1 + (wrap64 (1 + x10)))) (x7 ++ bytesOf (x0.extract (x1 : Int).toNat ((wrap64 ((wrap64 (x1 + 1)) + x10)) : Int).toNat)) x8 x9) else (none)) else (none)) else (none)) else (none)) else (if x10 ≥ 192 then (comp_Name.j3 k x0 x1 x7 x8 x9 x10 (decide ((wrap64 (x1 + 1)) < (x0.size : Int)))) else (comp_Name.j3 k x0 x1 x7 x8 x9 x10 false))
def comp_Name.j3 : Nat → ByteArray → Int → List Int → Int → Int → Int → Bool → Option (ByteArray × Int × Int)
  | 0, _, _, _, _, _, _, _ => none
  | k + 1, x0, x1, x7, x8, x9, x10, x64 => if x64 = true then (if 0 ≤ (wrap64 (x1 + 1)) then (if (wrap64 (x1 + 1)) < (x0.size : Int) then (if (Go.bits .or .i64 (wrap64 ((Go.bits .and .i64 x10 63) * 256)) (wrap64 (bt x0 (wrap64 (x1 + 1))))) ≥ x8 then (some ((⟨#[]⟩ : ByteArray), 0, 500)) else (if x9 < 0 then (comp_Name.l0 k x0 (Go.bits .or .i64 (wrap64 ((Go.bits .and .i64 x10 63) * 256)) (wrap64 (bt x0 (wrap64 (x1 + 1))))) x7 (Go.bits .or .i64 (wrap64 ((Go.bits .and .i64 x10 63) * 256)) (wrap64 (bt x0 (wrap64 (x1 + 1))))) (wrap64 (x1 + 2))) else (comp_Name.l0 k x0 (Go.bits .or .i64 (wrap64 ((Go.bits .and .i64 x10 63) * 256)) (wrap64 (bt x0 (wrap64 (x1 + 1))))) x7 (Go.bits .or .i64 (wrap64 ((Go.bits .and .i64 x10 63) * 256)) (wrap64 (bt x0 (wrap64 (x1 + 1))))) x9))) else (none)) else (none)) else (some ((⟨#[]⟩ : ByteArray), 0, 500))
end
def comp_Name.f (k : Nat) (a0 : ByteArray) (a1 : Int) : Option (ByteArray × Int × Int) := if a1 < 0 then (some ((⟨#[]⟩ : ByteArray), 0, 500)) else (comp_Name.l0 k a0 a1 ([] : List Int) a1 (-1))
theorem comp_Name.mono_l : ∀ k, (∀ y0 y1 y2 y3 y4, LeO (comp_Name.l0 k y0 y1 y2 y3 y4) (comp_Name.l0 (k + 1) y0 y1 y2 y3 y4)) ∧ (∀ y0 y1 y2 y3 y4 y5, LeO (comp_Name.j1 k y0 y1 y2 y3 y4 y5) (comp_Name.j1 (k + 1) y0 y1 y2 y3 y4 y5)) ∧ (∀ y0 y1 y2 y3 y4 y5 y6, LeO (comp_Name.j2 k y0 y1 y2 y3 y4 y5 y6) (comp_Name.j2 (k + 1) y0 y1 y2 y3 y4 y5 y6)) ∧ (∀ y0 y1 y2 y3 y4 y5 y6, LeO (comp_Name.j3 k y0 y1 y2 y3 y4 y5 y6) (comp_Name.j3 (k + 1) y0 y1 y2 y3 y4 y5 y6))
  | 0 => ⟨fun _ _ _ _ _ r h => by simp [comp_Name.l0] at h, fun _ _ _ _ _ _ r h => by simp [comp_Name.j1] at h, fun _ _ _ _ _ _ _ r h => by simp [comp_Name.j2] at h, fun _ _ _ _ _ _ _ r h => by simp [comp_Name.j3] at h⟩
  | k + 1 => by
    obtain ⟨ih0, ih1, ih2, ih3⟩ := comp_Name.mono_l k
    refine ⟨?_, ?_, ?_, ?_⟩
    · intro y0 y1 y2 y3 y4
      unfold comp_Name.l0
      repeat' first
      | (with_reducible exact ih0 _ _ _ _ _)
      | (with_reducible exact ih1 _ _ _ _ _ _)
      | (with_reducible exact ih2 _ _ _ _ _ _ _)
      | (with_reducible exact ih3 _ _ _ _ _ _ _)
      | (with_reducible exact LeO.refl _)
      | (with_reducible exact LeO.none _)
      | (with_reducible refine LeO.ite ?_ ?_)
      | (with_reducible refine LeO.bind ?_ (fun _ => ?_))
      | exact ih0 _ _ _ _ _
      | exact ih1 _ _ _ _ _ _
      | exact ih2 _ _ _ _ _ _ _
      | exact ih3 _ _ _ _ _ _ _
      | exact LeO.none _
      | refine LeO.ite ?_ ?_
      | refine LeO.bind ?_ (fun _ => ?_)
    · intro y0 y1 y2 y3 y4 y5
      unfold comp_Name.j1
      repeat' first
      | (with_reducible exact ih0 _ _ _ _ _)
      | (with_reducible exact ih1 _ _ _ _ _ _)
      | (with_reducible exact ih2 _ _ _ _ _ _ _)
      | (with_reducible exact ih3 _ _ _ _ _ _ _)
      | (with_reducible exact LeO.refl _)
      | (with_reducible exact LeO.none _)
      | (with_reducible refine LeO.ite ?_ ?_)
      | (with_reducible refine LeO.bind ?_ (fun _ => ?_))
      | exact ih0 _ _ _ _ _
      | exact ih1 _ _ _ _ _ _
      | exact ih2 _ _ _ _ _ _ _
      | exact ih3 _ _ _ _ _ _ _
      | exact LeO.none _
      | refine LeO.ite ?_ ?_
      | refine LeO.bind ?_ (fun _ => ?_)
    · intro y0 y1 y2 y3 y4 y5 y6
      unfold comp_Name.j2
      repeat' first
      | (with_reducible exact ih0 _ _ _ _ _)
      | (with_reducible exact ih1 _ _ _ _ _ _)
      | (with_reducible exact ih2 _ _ _ _ _ _ _)
      | (with_reducible exact ih3 _ _ _ _ _ _ _)
      | (with_reducible exact LeO.refl _)
      | (with_reducible exact LeO.none _)
      | (with_reducible refine LeO.ite ?_ ?_)
      | (with_reducible refine LeO.bind ?_ (fun _ => ?_))
      | exact ih0 _ _ _ _ _
      | exact ih1 _ _ _ _ _ _
      | exact ih2 _ _ _ _ _ _ _
      | exact ih3 _ _ _ _ _ _ _
      | exact LeO.none _
      | refine LeO.ite ?_ ?_
      | refine LeO.bind ?_ (fun _ => ?_)
    · intro y0 y1 y2 y3 y4 y5 y6
      unfold comp_Name.j3
      repeat' first
      | (with_reducible exact ih0 _ _ _ _ _)
      | (with_reducible exact ih1 _ _ _ _ _ _)
      | (with_reducible exact ih2 _ _ _ _ _ _ _)
      | (with_reducible exact ih3 _ _ _ _ _ _ _)
      | (with_reducible exact LeO.refl _)
      | (with_reducible exact LeO.none _)
      | (with_reducible refine LeO.ite ?_ ?_)
      | (with_reducible refine LeO.bind ?_ (fun _ => ?_))
      | exact ih0 _ _ _ _ _
      | exact ih1 _ _ _ _ _ _
      | exact ih2 _ _ _ _ _ _ _
      | exact ih3 _ _ _ _ _ _ _
      | exact LeO.none _
      | refine LeO.ite ?_ ?_
      | refine LeO.bind ?_ (fun _ => ?_)
theorem comp_Name.mono : ∀ a0 a1 k, LeO (comp_Name.f k a0 a1) (comp_Name.f (k + 1) a0 a1) := by
  intro a0 a1 k
  obtain ⟨ih0, ih1, ih2, ih3⟩ := comp_Name.mono_l k
  unfold comp_Name.f
  repeat' first
      | (with_reducible exact ih0 _ _ _ _ _)
      | (with_reducible exact ih1 _ _ _ _ _ _)
      | (with_reducible exact ih2 _ _ _ _ _ _ _)
      | (with_reducible exact ih3 _ _ _ _ _ _ _)
      | (with_reducible exact LeO.refl _)
      | (with_reducible exact LeO.none _)
      | (with_reducible refine LeO.ite ?_ ?_)
      | (with_reducible refine LeO.bind ?_ (fun _ => ?_))
      | exact ih0 _ _ _ _ _
      | exact ih1 _ _ _ _ _ _
      | exact ih2 _ _ _ _ _ _ _
      | exact ih3 _ _ _ _ _ _ _
      | exact LeO.none _
      | refine LeO.ite ?_ ?_
      | refine LeO.bind ?_ (fun _ => ?_)
set_option maxHeartbeats 8000000 in
set_option maxRecDepth 100000 in
theorem comp_Name.calls (k : Nat) (a0 : ByteArray) (a1 : Int) (r1 : ByteArray) (r2 : Int) (r3 : Int) (w : World) (h : comp_Name.f k a0 a1 = some (r1, r2, r3)) :
    Calls Try.prog 94 #[.string a0, .int .i64 a1] w fun e w' => e = .returned (.tuple #[.string r1, .int .i64 r2, .int .i64 r3]) ∧ Below w.heap.size w w' := by
  have HB := Aside0.mk (Below.refl w.heap.size w)
  have H : (if a1 < 0 then (some ((⟨#[]⟩ : ByteArray), 0, 500)) else (comp_Name.l0 k a0 a1 ([] : List Int) a1 (-1))) = some (r1, r2, r3) := h
  clear h
  by_cases c3 : a1 < 0
  · rw [if_pos c3] at H
    have c3b0 : decide (a1 < 0) = true := decide_eq_true c3
    clear c3
    simp only [Option.some.injEq, Prod.mk.injEq] at H
    obtain ⟨rfl, rfl, rfl⟩ := H
    go_enter Try.func94, Try.ntmps94
    go_wp2
    go_ret3
    exact ⟨by first | rfl | (simp [errW_none, errW_some] <;> rfl) | (simp [*, errW_none, errW_some] <;> rfl), by repeat (first | (with_reducible first | exact HB.out | apply below_alloc | apply pw_below_drewN | apply below_drew1) | exact HB.out)⟩
  · rw [if_neg c3] at H
    have c3b0 : decide (a1 < 0) = false := decide_eq_false c3
    clear c3
    have H' := Aside0.mk H
    clear H
    go_enter Try.func94, Try.ntmps94
    go_wp2
    go_loopg [1, 7, 8, 9] k (fun kq v1 v7 v8 v9 w' => ∃ (x1_1 : Int) (x7_1 : List Int) (x8_1 : Int) (x9_1 : Int), v1 = .int .i64 x1_1 ∧ v8 = .int .i64 x8_1 ∧ v9 = .int .i64 x9_1 ∧ Aside0 (comp_Name.l0 kq a0 x1_1 x7_1 x8_1 x9_1 = some (r1, r2, r3)) ∧ Aside0 (kq ≤ k) ∧ Aside0 (Kd.R (Kd.int .u8) 5 w' w.heap.size (fun _ => True) v7 x7_1) ∧ Aside0 (Below w.heap.size w w'))
    case atStart => exact ⟨(a1), (([] : List Int)), (a1), ((-1)), (by first | rfl | (simp; done) | (simp [*]; done)), (by first | rfl | (simp; done) | (simp [*]; done)), (by first | rfl | (simp; done) | (simp [*]; done)), H', ⟨Nat.le_refl _⟩, ⟨by first | exact Kd.R_nil _ _ _ _ _ | exact Kd.N_nil _ _ _ _ _ | exact Kd.V_nil _ _ _ _ _ | exact Kd.Q_nil _ _ _ _ _ | exact Kd.S_nil _ _ _ _ _⟩, ⟨by repeat (first | (with_reducible first | exact HB.out | apply below_alloc | apply pw_below_drewN | apply below_drew1) | exact HB.out)⟩⟩
    case round =>
      clear H'
      try clear p2
      try clear c3
      try clear c3b0
      obtain ⟨x1_1, x7_1, x8_1, x9_1, rfl, rfl, rfl, HA, HK1, HO_7, HB⟩ := hrel
      cases gk with
      | zero => exact absurd HA.out (by simp [comp_Name.l0])
      | succ k1 =>
        have H := HA.out
        clear HA
        simp only [comp_Name.l0] at H
        have HC4 := Aside0.mk H
        clear H
        go_upto_region 5 with (fail)
        go_cut [23] (fun v23 wc => ∃ (kq : Nat) (x23_3 : Bool), v23 = .bool x23_3 ∧ Aside0 (comp_Name.j1 kq a0 x1_1 x7_1 x8_1 x9_1 x23_3 = some (r1, r2, r3)) ∧ Aside0 (kq ≤ k1) ∧ Aside0 (Kd.R (Kd.int .u8) 5 wc w.heap.size (fun _ => True) u7 x7_1) ∧ Aside0 (Below w.heap.size w wc))
        case first =>
          have H := HC4.out
          clear HC4
          by_cases c5 : x1_1 < (a0.size : Int)
          · rw [if_pos c5] at H
            have c5b0 : decide (x1_1 < (a0.size : Int)) = true := decide_eq_true c5
            clear c5
            (first | rw [c5b0] | (simp only [i64_w, i32_w]; rw [c5b0]) | skip)
            have H' := Aside0.mk H
            clear H
            obtain ⟨Ao6, co6, eo6⟩ := Kd.R_slice HO_7.out
            subst eo6
            go_wp2
            go_meet
            case rel => exact ⟨_, (decide ((x7_1.length : Int) < 255)), (by first | rfl | (simp; done) | (simp [*]; done)), H', ⟨by have := HK1.out; first | omega | exact Nat.le_refl _⟩, ⟨by (with_reducible repeat (first | apply Kd.R_alloc | apply Kd.R_drewN | apply Kd.R_drew)); exact HO_7.out⟩, ⟨by repeat (first | (with_reducible first | exact HB.out | apply below_alloc | apply pw_below_drewN | apply below_drew1) | exact HB.out)⟩⟩
          · rw [if_neg c5] at H
            have c5b0 : decide (x1_1 < (a0.size : Int)) = false := decide_eq_false c5
            clear c5
            (first | rw [c5b0] | (simp only [i64_w, i32_w]; rw [c5b0]) | skip)
            have H' := Aside0.mk H
            clear H
            go_wp2
            go_meet
            case rel => exact ⟨_, (false), (by first | rfl | (simp; done) | (simp [*]; done)), H', ⟨by have := HK1.out; first | omega | exact Nat.le_refl _⟩, ⟨by (with_reducible repeat (first | apply Kd.R_alloc | apply Kd.R_drewN | apply Kd.R_drew)); exact HO_7.out⟩, ⟨by repeat (first | (with_reducible first | exact HB.out | apply below_alloc | apply pw_below_drewN | apply below_drew1) | exact HB.out)⟩⟩
        case rest =>
          clear HC4
          try clear p2
          try clear c3
          try clear c3b0
          try clear c5
          try clear c5b0
          try clear p2
          obtain ⟨kq, x23_3, rfl, HA, HJ3, HO_7, HB⟩ := hcut
          cases kq with
          | zero => exact absurd HA.out (by simp [comp_Name.j1])
          | succ kj3 =>
            have H := HA.out
            clear HA
            simp only [comp_Name.j1] at H
            by_cases c7 : x23_3 = true
            · subst c7
              have H1 : (if 0 ≤ x1_1 then (if x1_1 < (a0.size : Int) then (if (wrap64 (bt a0 x1_1)) = 0 then (if x9_1 < 0 then (if x7_1.length < 140737488355328 then (some (strOfNums (x7_1 ++ [0]), wrap64 (x1_1 + 1), 0)) else (none)) else (if x7_1.length < 140737488355328 then (some (strOfNums (x7_1 ++ [0]), x9_1, 0)) else (none))) else (if (wrap64 (bt a0 x1_1)) ≤ 63 then (comp_Name.j2 kj3 a0 x1_1 x7_1 x8_1 x9_1 (wrap64 (bt a0 x1_1)) (decide ((wrap64 (bt a0 x1_1)) < (wrap64 ((a0.size : Int) - x1_1))))) else (comp_Name.j2 kj3 a0 x1_1 x7_1 x8_1 x9_1 (wrap64 (bt a0 x1_1)) false))) else (none)) else (none)) = some (r1, r2, r3) := by rw [if_pos rfl] at H; exact H
              clear H
              have H := H1
              clear H1
              by_cases c8 : 0 ≤ x1_1
              · rw [if_pos c8] at H
                have c8b0 : decide (0 ≤ x1_1) = true := decide_eq_true c8
                clear c8
                by_cases c9 : x1_1 < (a0.size : Int)
                · rw [if_pos c9] at H
                  have c9b0 : decide (x1_1 < (a0.size : Int)) = true := decide_eq_true c9
                  clear c9
                  by_cases c11 : (wrap64 (bt a0 x1_1)) = 0
                  · rw [if_pos c11] at H
                    have c11b0 : ((wrap64 (bt a0 x1_1)) == 0) = true := beq_iff_eq.mpr c11
                    have c11b1 : ((wrap64 (bt a0 x1_1)) != 0) = false := bne_eq_false_iff_eq.mpr c11
                    clear c11
                    by_cases c12 : x9_1 < 0
                    · rw [if_pos c12] at H
                      have c12b0 : decide (x9_1 < 0) = true := decide_eq_true c12
                      clear c12
                      by_cases c13 : x7_1.length < 140737488355328
                      · rw [if_pos c13] at H
                        have LMc13 := Aside0.mk c13
                        clear c13
                        obtain ⟨y101, hy101⟩ : ∃ y_ : List Int, y_ = (x7_1 ++ [0]) := ⟨_, rfl⟩
                        replace H : (some (strOfNums y101, wrap64 (x1_1 + 1), 0)) = some (r1, r2, r3) := by first | (rw [hy101]; with_reducible exact H) | (have H2_ := (Option.bind_some _ _).symm.trans H; rw [hy101]; with_reducible exact H2_) | (have H2_ := (Option.bind_some _ _).symm.trans H; with_reducible exact H2_) | with_reducible exact H | (rw [hy101]; exact H) | exact H
                        have Ny101 := Aside0.mk hy101
                        clear hy101
                        simp only [Option.some.injEq, Prod.mk.injEq] at H
                        obtain ⟨rfl, rfl, rfl⟩ := H
                        have p10 : 0 ≤ (x1_1 : Int) := of_decide_eq_true (by first | (with_reducible assumption) | assumption)
                        have q10 : x1_1 < (a0.size : Int) := of_decide_eq_true (by first | (with_reducible assumption) | assumption)
                        have hx10 := bt_at a0 x1_1
                        replace p10 := eq_true p10
                        replace q10 := eq_true q10
                        go_wp2_with (first | ((with_reducible refine gate_builtin (b := .append) (xs := #[.tmp 35, .tmp 36]) rfl ?_); (try (refine gate_guard (by rfl) ?_; dsimp only)); at_builtin; refine Kd.R_append (Kd.int .u8) (w0 := w) w.heap.size rfl (.tmp 35) (.tmp 36) 56 5 (.int .u8 0) 1 rfl Try.underlying56 info5 rfl (by decide) (by omega) u7 x7_1 0 [.int .u8 0] (fun _ => True) (fun _ => False) rfl rfl ?aP (fun _ hk => hk.elim) ?aF ?aO ?aB ?aS ?aL ?_; (case aP => exact rfl); (case aB => exact (by repeat (first | (with_reducible first | exact HB.out | apply below_alloc | apply pw_below_drewN | apply below_drew1) | exact HB.out))); (case aF => exact (fun _ _ => trivial)); (case aO => exact (by (with_reducible repeat (first | apply Kd.R_alloc | apply Kd.R_drewN | apply Kd.R_drew)); exact HO_7.out)); (case aS => exact (below_size (by repeat (first | (with_reducible first | exact HB.out | apply below_alloc | apply pw_below_drewN | apply below_drew1) | exact HB.out)))); (case aL => have := LMc13.out; omega); intro v102 w14 ho hb hg hat; rw [← Ny101.out] at ho; have n0_ := Aside0.mk (hb); have n1_ := Aside0.mk (ho); clear HB; clear HO_7; have HB := n0_; have HO103 := n1_; clear n0_ n1_; clear ho hb hg hat; have hcv15 := own_string (P := Try.prog) Try.underlying56 Try.underlying5 Try.underlying9 (Kd.own_of_R HO103.out)))
                        go_ret3
                        exact ⟨by first | rfl | (simp [errW_none, errW_some] <;> rfl) | (simp [*, errW_none, errW_some] <;> rfl), by repeat (first | (with_reducible first | exact HB.out | apply below_alloc | apply pw_below_drewN | apply below_drew1) | exact HB.out)⟩
                      · rw [if_neg c13] at H
                        exact absurd H (by simp)
                    · rw [if_neg c12] at H
                      have c12b0 : decide (x9_1 < 0) = false := decide_eq_false c12
                      clear c12
                      by_cases c16 : x7_1.length < 140737488355328
                      · rw [if_pos c16] at H
                        have LMc16 := Aside0.mk c16
                        clear c16
                        obtain ⟨y104, hy104⟩ : ∃ y_ : List Int, y_ = (x7_1 ++ [0]) := ⟨_, rfl⟩
                        replace H : (some (strOfNums y104, x9_1, 0)) = some (r1, r2, r3) := by first | (rw [hy104]; with_reducible exact H) | (have H2_ := (Option.bind_some _ _).symm.trans H; rw [hy104]; with_reducible exact H2_) | (have H2_ := (Option.bind_some _ _).symm.trans H; with_reducible exact H2_) | with_reducible exact H | (rw [hy104]; exact H) | exact H
                        have Ny104 := Aside0.mk hy104
                        clear hy104
                        simp only [Option.some.injEq, Prod.mk.injEq] at H
                        obtain ⟨rfl, rfl, rfl⟩ := H
                        have p10 : 0 ≤ (x1_1 : Int) := of_decide_eq_true (by first | (with_reducible assumption) | assumption)
                        have q10 : x1_1 < (a0.size : Int) := of_decide_eq_true (by first | (with_reducible assumption) | assumption)
                        have hx10 := bt_at a0 x1_1
                        replace p10 := eq_true p10
                        replace q10 := eq_true q10
                        go_wp2_with (first | ((with_reducible refine gate_builtin (b := .append) (xs := #[.tmp 35, .tmp 36]) rfl ?_); (try (refine gate_guard (by rfl) ?_; dsimp only)); at_builtin; refine Kd.R_append (Kd.int .u8) (w0 := w) w.heap.size rfl (.tmp 35) (.tmp 36) 56 5 (.int .u8 0) 1 rfl Try.underlying56 info5 rfl (by decide) (by omega) u7 x7_1 0 [.int .u8 0] (fun _ => True) (fun _ => False) rfl rfl ?aP (fun _ hk => hk.elim) ?aF ?aO ?aB ?aS ?aL ?_; (case aP => exact rfl); (case aB => exact (by repeat (first | (with_reducible first | exact HB.out | apply below_alloc | apply pw_below_drewN | apply below_drew1) | exact HB.out))); (case aF => exact (fun _ _ => trivial)); (case aO => exact (by (with_reducible repeat (first | apply Kd.R_alloc | apply Kd.R_drewN | apply Kd.R_drew)); exact HO_7.out)); (case aS => exact (below_size (by repeat (first | (with_reducible first | exact HB.out | apply below_alloc | apply pw_below_drewN | apply below_drew1) | exact HB.out)))); (case aL => have := LMc16.out; omega); intro v105 w17 ho hb hg hat; rw [← Ny104.out] at ho; have n0_ := Aside0.mk (hb); have n1_ := Aside0.mk (ho); clear HB; clear HO_7; have HB := n0_; have HO106 := n1_; clear n0_ n1_; clear ho hb hg hat; have hcv18 := own_string (P := Try.prog) Try.underlying56 Try.underlying5 Try.underlying9 (Kd.own_of_R HO106.out)))
                        go_ret3
                        exact ⟨by first | rfl | (simp [errW_none, errW_some] <;> rfl) | (simp [*, errW_none, errW_some] <;> rfl), by repeat (first | (with_reducible first | exact HB.out | apply below_alloc | apply pw_below_drewN | apply below_drew1) | exact HB.out)⟩
                      · rw [if_neg c16] at H
                        exact absurd H (by simp)
                  · rw [if_neg c11] at H
                    have c11b0 : ((wrap64 (bt a0 x1_1)) == 0) = false := beq_eq_false_iff_ne.mpr c11
                    have c11b1 : ((wrap64 (bt a0 x1_1)) != 0) = true := bne_iff_ne.mpr c11
                    have HC19 := Aside0.mk H
                    clear H
                    have p10 : 0 ≤ (x1_1 : Int) := of_decide_eq_true (by first | (with_reducible assumption) | assumption)
                    have q10 : x1_1 < (a0.size : Int) := of_decide_eq_true (by first | (with_reducible assumption) | assumption)
                    have hx10 := bt_at a0 x1_1
                    replace p10 := eq_true p10
                    replace q10 := eq_true q10
                    go_upto_region 12 with (fail)
                    go_cut [40] (fun v40 wc => ∃ (kq : Nat) (x40_18 : Bool), v40 = .bool x40_18 ∧ Aside0 (comp_Name.j2 kq a0 x1_1 x7_1 x8_1 x9_1 (wrap64 (bt a0 x1_1)) x40_18 = some (r1, r2, r3)) ∧ Aside0 (kq ≤ kj3) ∧ Aside0 (Kd.R (Kd.int .u8) 5 wc w.heap.size (fun _ => True) u7 x7_1) ∧ Aside0 (Below w.heap.size w wc))
                    case first =>
                      have H := HC19.out
                      clear HC19
                      by_cases c20 : (wrap64 (bt a0 x1_1)) ≤ 63
                      · rw [if_pos c20] at H
                        have c20b0 : decide ((wrap64 (bt a0 x1_1)) ≤ 63) = true := decide_eq_true c20
                        clear c20
                        (first | rw [c20b0] | (simp only [i64_w, i32_w]; rw [c20b0]) | skip)
                        have H' := Aside0.mk H
                        clear H
                        go_wp2
                        go_meet
                        case rel => exact ⟨_, (decide ((wrap64 (bt a0 x1_1)) < (wrap64 ((a0.size : Int) - x1_1)))), (by first | rfl | (simp; done) | (simp [*]; done)), H', ⟨by have := HK1.out; have := HJ3.out; first | omega | exact Nat.le_refl _⟩, ⟨by (with_reducible repeat (first | apply Kd.R_alloc | apply Kd.R_drewN | apply Kd.R_drew)); exact HO_7.out⟩, ⟨by repeat (first | (with_reducible first | exact HB.out | apply below_alloc | apply pw_below_drewN | apply below_drew1) | exact HB.out)⟩⟩
                      · rw [if_neg c20] at H
                        have c20b0 : decide ((wrap64 (bt a0 x1_1)) ≤ 63) = false := decide_eq_false c20
                        clear c20
                        (first | rw [c20b0] | (simp only [i64_w, i32_w]; rw [c20b0]) | skip)
                        have H' := Aside0.mk H
                        clear H
                        go_wp2
                        go_meet
                        case rel => exact ⟨_, (false), (by first | rfl | (simp; done) | (simp [*]; done)), H', ⟨by have := HK1.out; have := HJ3.out; first | omega | exact Nat.le_refl _⟩, ⟨by (with_reducible repeat (first | apply Kd.R_alloc | apply Kd.R_drewN | apply Kd.R_drew)); exact HO_7.out⟩, ⟨by repeat (first | (with_reducible first | exact HB.out | apply below_alloc | apply pw_below_drewN | apply below_drew1) | exact HB.out)⟩⟩
                    case rest =>
                      clear HC19
                      try clear c1
                      try clear p1
                      try clear q1
                      try clear hx1
                      try clear hcv1
                      try clear c2
                      try clear p2
                      try clear c3
                      try clear c3b0
                      try clear c5
                      try clear c5b0
                      try clear p6
                      try clear c7
                      try clear c8
                      try clear c8b0
                      try clear c9
                      try clear c9b0
                      try clear p10
                      try clear q10
                      try clear hx10
                      try clear c11
                      try clear c11b0
                      try clear c11b1
                      try clear c12
                      try clear c12b0
                      try clear c13
                      try clear hcv15
                      try clear c16
                      try clear hcv18
                      try clear c20
                      try clear c20b0
                      try clear p10
                      try clear p2
                      try clear q10
                      obtain ⟨kq, x40_18, rfl, HA, HJ18, HO_7, HB⟩ := hcut
                      cases kq with
                      | zero => exact absurd HA.out (by simp [comp_Name.j2])
                      | succ kj18 =>
                        have H := HA.out
                        clear HA
                        simp only [comp_Name.j2] at H
                        by_cases c21 : x40_18 = true
                        · subst c21
                          have H1 : (if 0 ≤ x1_1 then (if x1_1 ≤ (wrap64 ((wrap64 (x1_1 + 1)) + (wrap64 (bt a0 x1_1)))) then (if (wrap64 ((wrap64 (x1_1 + 1)) + (wrap64 (bt a0 x1_1)))) ≤ (a0.size : Int) then (if x7_1.length + (a0.extract (x1_1 : Int).toNat ((wrap64 ((wrap64 (x1_1 + 1)) + (wrap64 (bt a0 x1_1)))) : Int).toNat).size < 140737488355328 then (comp_Name.l0 kj18 a0 (wrap64 (x1_1 + (wrap64 (1 + (wrap64 (bt a0 x1_1)))))) (x7_1 ++ bytesOf (a0.extract (x1_1 : Int).toNat ((wrap64 ((wrap64 (x1_1 + 1)) + (wrap64 (bt a0 x1_1)))) : Int).toNat)) x8_1 x9_1) else (none)) else (none)) else (none)) else (none)) = some (r1, r2, r3) := by rw [if_pos rfl] at H; exact H
                          clear H
                          have H := H1
                          clear H1
                          by_cases c22 : 0 ≤ x1_1
                          · rw [if_pos c22] at H
                            have c22b0 := eq_true c22
                            have c22b1 : decide (0 ≤ x1_1) = true := decide_eq_true c22
                            clear c22
                            by_cases c23 : x1_1 ≤ (wrap64 ((wrap64 (x1_1 + 1)) + (wrap64 (bt a0 x1_1))))
                            · rw [if_pos c23] at H
                              have c23b0 := eq_true c23
                              have c23b1 : decide (x1_1 ≤ (wrap64 ((wrap64 (x1_1 + 1)) + (wrap64 (bt a0 x1_1))))) = true := decide_eq_true c23
                              by_cases c24 : (wrap64 ((wrap64 (x1_1 + 1)) + (wrap64 (bt a0 x1_1)))) ≤ (a0.size : Int)
                              · rw [if_pos c24] at H
                                have c24b0 := eq_true c24
                                have c24b1 : decide ((wrap64 ((wrap64 (x1_1 + 1)) + (wrap64 (bt a0 x1_1)))) ≤ (a0.size : Int)) = true := decide_eq_true c24
                                by_cases c25 : x7_1.length + (a0.extract (x1_1 : Int).toNat ((wrap64 ((wrap64 (x1_1 + 1)) + (wrap64 (bt a0 x1_1)))) : Int).toNat).size < 140737488355328
                                · rw [if_pos c25] at H
                                  have LMc25 := Aside0.mk c25
                                  clear c25
                                  obtain ⟨y107, hy107⟩ : ∃ y_ : List Int, y_ = (x7_1 ++ bytesOf (a0.extract (x1_1 : Int).toNat ((wrap64 ((wrap64 (x1_1 + 1)) + (wrap64 (bt a0 x1_1)))) : Int).toNat)) := ⟨_, rfl⟩
                                  replace H : (comp_Name.l0 kj18 a0 (wrap64 (x1_1 + (wrap64 (1 + (wrap64 (bt a0 x1_1)))))) y107 x8_1 x9_1) = some (r1, r2, r3) := by first | (rw [hy107]; with_reducible exact H) | (have H2_ := (Option.bind_some _ _).symm.trans H; rw [hy107]; with_reducible exact H2_) | (have H2_ := (Option.bind_some _ _).symm.trans H; with_reducible exact H2_) | with_reducible exact H | (rw [hy107]; exact H) | exact H
                                  have Ny107 := Aside0.mk hy107
                                  clear hy107
                                  have H' := Aside0.mk H
                                  clear H
                                  go_wp2_with (first | (at_builtin; refine print_append_str (w0 := w) w.heap.size rfl (.tmp 51) _ 56 9 5 rfl Try.underlying56 Try.underlying9 info5 u7 x7_1 (a0.extract (x1_1 : Int).toNat ((wrap64 ((wrap64 (x1_1 + 1)) + (wrap64 (bt a0 x1_1)))) : Int).toNat) rfl rfl ?aO ?aB ?aS ?aL ?_; (case aB => exact (by repeat (first | (with_reducible first | exact HB.out | apply below_alloc | apply pw_below_drewN | apply below_drew1) | exact HB.out))); (case aO => exact (Kd.own_of_R (by (with_reducible repeat (first | apply Kd.R_alloc | apply Kd.R_drewN | apply Kd.R_drew)); exact HO_7.out))); (case aS => exact (below_size (by repeat (first | (with_reducible first | exact HB.out | apply below_alloc | apply pw_below_drewN | apply below_drew1) | exact HB.out)))); (case aL => have := LMc25.out; omega); intro v108 w26 ho0 hb hg; have ho := Kd.R_of_own (h1 := fun _ => rfl) (ok := fun _ => True) ho0 (fun _ _ => trivial); clear ho0; have hat := True.intro; rw [← Ny107.out] at ho; change Kd.R (Kd.int .u8) 5 w26 w.heap.size (fun _ => True) v108 y107 at ho; have n0_ := Aside0.mk (hb); have n1_ := Aside0.mk (ho); clear HB; clear HO_7; have HB := n0_; have HO109 := n1_; clear n0_ n1_; clear ho hb hg hat))
                                  go_roundg kj18
                                  case measure => have := HK1.out; have := HJ3.out; have := HJ18.out; omega
                                  case rel => exact ⟨(wrap64 (x1_1 + (wrap64 (1 + (wrap64 (bt a0 x1_1)))))), (y107), (x8_1), (x9_1), (by first | rfl | (simp; done) | (simp [*]; done)), (by first | rfl | (simp; done) | (simp [*]; done)), (by first | rfl | (simp; done) | (simp [*]; done)), H', ⟨by have := HK1.out; have := HJ3.out; have := HJ18.out; omega⟩, ⟨by (with_reducible repeat (first | apply Kd.R_alloc | apply Kd.R_drewN | apply Kd.R_drew)); exact HO109.out⟩, ⟨by repeat (first | (with_reducible first | exact HB.out | apply below_alloc | apply pw_below_drewN | apply below_drew1) | exact HB.out)⟩⟩
                                · rw [if_neg c25] at H
                                  exact absurd H (by simp)
                              · rw [if_neg c24] at H
                                exact absurd H (by simp)
                            · rw [if_neg c23] at H
                              exact absurd H (by simp)
                          · rw [if_neg c22] at H
                            exact absurd H (by simp)
                        · replace c21 := Bool.eq_false_iff.mpr c21
                          subst c21
                          have H1 : (if (wrap64 (bt a0 x1_1)) ≥ 192 then (comp_Name.j3 kj18 a0 x1_1 x7_1 x8_1 x9_1 (wrap64 (bt a0 x1_1)) (decide ((wrap64 (x1_1 + 1)) < (a0.size : Int)))) else (comp_Name.j3 kj18 a0 x1_1 x7_1 x8_1 x9_1 (wrap64 (bt a0 x1_1)) false)) = some (r1, r2, r3) := by rw [if_neg (show ¬ (false = true) by decide)] at H; exact H
                          clear H
                          have H := H1
                          clear H1
                          have HC27 := Aside0.mk H
                          clear H
                          go_upto_region 15 with (fail)
                          go_cut [64] (fun v64 wc => ∃ (kq : Nat) (x64_26 : Bool), v64 = .bool x64_26 ∧ Aside0 (comp_Name.j3 kq a0 x1_1 x7_1 x8_1 x9_1 (wrap64 (bt a0 x1_1)) x64_26 = some (r1, r2, r3)) ∧ Aside0 (kq ≤ kj18) ∧ Aside0 (Kd.R (Kd.int .u8) 5 wc w.heap.size (fun _ => True) u7 x7_1) ∧ Aside0 (Below w.heap.size w wc))
                          case first =>
                            have H := HC27.out
                            clear HC27
                            by_cases c28 : (wrap64 (bt a0 x1_1)) ≥ 192
                            · rw [if_pos c28] at H
                              have c28b0 : decide (192 ≤ (wrap64 (bt a0 x1_1))) = true := decide_eq_true c28
                              clear c28
                              (first | rw [c28b0] | (simp only [i64_w, i32_w]; rw [c28b0]) | skip)
                              have H' := Aside0.mk H
                              clear H
                              go_wp2
                              go_meet
                              case rel => exact ⟨_, (decide ((wrap64 (x1_1 + 1)) < (a0.size : Int))), (by first | rfl | (simp; done) | (simp [*]; done)), H', ⟨by have := HK1.out; have := HJ3.out; have := HJ18.out; first | omega | exact Nat.le_refl _⟩, ⟨by (with_reducible repeat (first | apply Kd.R_alloc | apply Kd.R_drewN | apply Kd.R_drew)); exact HO_7.out⟩, ⟨by repeat (first | (with_reducible first | exact HB.out | apply below_alloc | apply pw_below_drewN | apply below_drew1) | exact HB.out)⟩⟩
                            · rw [if_neg c28] at H
                              have c28b0 : decide (192 ≤ (wrap64 (bt a0 x1_1))) = false := decide_eq_false c28
                              clear c28
                              (first | rw [c28b0] | (simp only [i64_w, i32_w]; rw [c28b0]) | skip)
                              have H' := Aside0.mk H
                              clear H
                              go_wp2
                              go_meet
                              case rel => exact ⟨_, (false), (by first | rfl | (simp; done) | (simp [*]; done)), H', ⟨by have := HK1.out; have := HJ3.out; have := HJ18.out; first | omega | exact Nat.le_refl _⟩, ⟨by (with_reducible repeat (first | apply Kd.R_alloc | apply Kd.R_drewN | apply Kd.R_drew)); exact HO_7.out⟩, ⟨by repeat (first | (with_reducible first | exact HB.out | apply below_alloc | apply pw_below_drewN | apply below_drew1) | exact HB.out)⟩⟩
                          case rest =>
                            clear HC27
                            try clear c1
                            try clear p1
                            try clear q1
                            try clear hx1
                            try clear hcv1
                            try clear c2
                            try clear p2
                            try clear c3
                            try clear c3b0
                            try clear c5
                            try clear c5b0
                            try clear p6
                            try clear c7
                            try clear c8
                            try clear c8b0
                            try clear c9
                            try clear c9b0
                            try clear p10
                            try clear q10
                            try clear hx10
                            try clear c11
                            try clear c11b0
                            try clear c11b1
                            try clear c12
                            try clear c12b0
                            try clear c13
                            try clear hcv15
                            try clear c16
                            try clear hcv18
                            try clear c20
                            try clear c20b0
                            try clear c21
                            try clear c22
                            try clear c22b0
                            try clear c22b1
                            try clear c23
                            try clear c23b0
                            try clear c23b1
                            try clear c24
                            try clear c24b0
                            try clear c24b1
                            try clear c25
                            try clear c28
                            try clear c28b0
                            try clear p1
                            try clear p10
                            try clear p2
                            try clear p6
                            try clear q1
                            try clear q10
                            obtain ⟨kq, x64_26, rfl, HA, HJ26, HO_7, HB⟩ := hcut
                            cases kq with
                            | zero => exact absurd HA.out (by simp [comp_Name.j3])
                            | succ kj26 =>
                              have H := HA.out
                              clear HA
                              simp only [comp_Name.j3] at H
                              by_cases c29 : x64_26 = true
                              · subst c29
                                have H1 : (if 0 ≤ (wrap64 (x1_1 + 1)) then (if (wrap64 (x1_1 + 1)) < (a0.size : Int) then (if (Go.bits .or .i64 (wrap64 ((Go.bits .and .i64 (wrap64 (bt a0 x1_1)) 63) * 256)) (wrap64 (bt a0 (wrap64 (x1_1 + 1))))) ≥ x8_1 then (some ((⟨#[]⟩ : ByteArray), 0, 500)) else (if x9_1 < 0 then (comp_Name.l0 kj26 a0 (Go.bits .or .i64 (wrap64 ((Go.bits .and .i64 (wrap64 (bt a0 x1_1)) 63) * 256)) (wrap64 (bt a0 (wrap64 (x1_1 + 1))))) x7_1 (Go.bits .or .i64 (wrap64 ((Go.bits .and .i64 (wrap64 (bt a0 x1_1)) 63) * 256)) (wrap64 (bt a0 (wrap64 (x1_1 + 1))))) (wrap64 (x1_1 + 2))) else (comp_Name.l0 kj26 a0 (Go.bits .or .i64 (wrap64 ((Go.bits .and .i64 (wrap64 (bt a0 x1_1)) 63) * 256)) (wrap64 (bt a0 (wrap64 (x1_1 + 1))))) x7_1 (Go.bits .or .i64 (wrap64 ((Go.bits .and .i64 (wrap64 (bt a0 x1_1)) 63) * 256)) (wrap64 (bt a0 (wrap64 (x1_1 + 1))))) x9_1))) else (none)) else (none)) = some (r1, r2, r3) := by rw [if_pos rfl] at H; exact H
                                clear H
                                have H := H1
                                clear H1
                                obtain ⟨ji30, hji30⟩ : ∃ j_ : Int, (wrap64 (x1_1 + 1)) = j_ := ⟨_, rfl⟩
                                replace H : (if 0 ≤ (ji30) then (if (ji30) < (a0.size : Int) then (if (Go.bits .or .i64 (wrap64 ((Go.bits .and .i64 (wrap64 (bt a0 x1_1)) 63) * 256)) (wrap64 (bt a0 (ji30)))) ≥ x8_1 then (some ((⟨#[]⟩ : ByteArray), 0, 500)) else (if x9_1 < 0 then (comp_Name.l0 kj26 a0 (Go.bits .or .i64 (wrap64 ((Go.bits .and .i64 (wrap64 (bt a0 x1_1)) 63) * 256)) (wrap64 (bt a0 (ji30)))) x7_1 (Go.bits .or .i64 (wrap64 ((Go.bits .and .i64 (wrap64 (bt a0 x1_1)) 63) * 256)) (wrap64 (bt a0 (ji30)))) (wrap64 (x1_1 + 2))) else (comp_Name.l0 kj26 a0 (Go.bits .or .i64 (wrap64 ((Go.bits .and .i64 (wrap64 (bt a0 x1_1)) 63) * 256)) (wrap64 (bt a0 (ji30)))) x7_1 (Go.bits .or .i64 (wrap64 ((Go.bits .and .i64 (wrap64 (bt a0 x1_1)) 63) * 256)) (wrap64 (bt a0 (ji30)))) x9_1))) else (none)) else (none)) = some (r1, r2, r3) := by first | (rw [hji30] at H; exact H) | (simp only [hji30] at H ⊢; exact H)
                                have hji30w : (IntKind.i64.wrap (x1_1 + 1)) = ji30 := (i64_w _).trans hji30
                                by_cases c31 : 0 ≤ (ji30)
                                · rw [if_pos c31] at H
                                  have c31b0 : decide (0 ≤ (ji30)) = true := decide_eq_true c31
                                  clear c31
                                  by_cases c32 : (ji30) < (a0.size : Int)
                                  · rw [if_pos c32] at H
                                    have c32b0 : decide ((ji30) < (a0.size : Int)) = true := decide_eq_true c32
                                    clear c32
                                    by_cases c34 : (Go.bits .or .i64 (wrap64 ((Go.bits .and .i64 (wrap64 (bt a0 x1_1)) 63) * 256)) (wrap64 (bt a0 (ji30)))) ≥ x8_1
                                    · rw [if_pos c34] at H
                                      have c34b0 : decide (x8_1 ≤ (Go.bits .or .i64 (wrap64 ((Go.bits .and .i64 (wrap64 (bt a0 x1_1)) 63) * 256)) (wrap64 (bt a0 (ji30))))) = true := decide_eq_true c34
                                      clear c34
                                      simp only [Option.some.injEq, Prod.mk.injEq] at H
                                      obtain ⟨rfl, rfl, rfl⟩ := H
                                      have p33 : 0 ≤ ((ji30) : Int) := of_decide_eq_true (by first | (with_reducible assumption) | assumption)
                                      have q33 : (ji30) < (a0.size : Int) := of_decide_eq_true (by first | (with_reducible assumption) | assumption)
                                      have hx33 := bt_at a0 (ji30)
                                      replace p33 := eq_true p33
                                      replace q33 := eq_true q33
                                      go_wp2
                                      go_ret3
                                      exact ⟨by first | rfl | (simp [errW_none, errW_some] <;> rfl) | (simp only [← hji30]; first | rfl | (simp [errW_none, errW_some] <;> rfl)) | (simp [*, errW_none, errW_some] <;> rfl), by repeat (first | (with_reducible first | exact HB.out | apply below_alloc | apply pw_below_drewN | apply below_drew1) | exact HB.out)⟩
                                    · rw [if_neg c34] at H
                                      have c34b0 : decide (x8_1 ≤ (Go.bits .or .i64 (wrap64 ((Go.bits .and .i64 (wrap64 (bt a0 x1_1)) 63) * 256)) (wrap64 (bt a0 (ji30))))) = false := decide_eq_false c34
                                      clear c34
                                      by_cases c35 : x9_1 < 0
                                      · rw [if_pos c35] at H
                                        have c35b0 : decide (x9_1 < 0) = true := decide_eq_true c35
                                        clear c35
                                        have H' := Aside0.mk H
                                        clear H
                                        have p33 : 0 ≤ ((ji30) : Int) := of_decide_eq_true (by first | (with_reducible assumption) | assumption)
                                        have q33 : (ji30) < (a0.size : Int) := of_decide_eq_true (by first | (with_reducible assumption) | assumption)
                                        have hx33 := bt_at a0 (ji30)
                                        replace p33 := eq_true p33
                                        replace q33 := eq_true q33
                                        go_wp2
                                        go_roundg kj26
                                        case measure => have := HK1.out; have := HJ3.out; have := HJ18.out; have := HJ26.out; omega
                                        case rel => exact ⟨(Go.bits .or .i64 (wrap64 ((Go.bits .and .i64 (wrap64 (bt a0 x1_1)) 63) * 256)) (wrap64 (bt a0 (ji30)))), (x7_1), (Go.bits .or .i64 (wrap64 ((Go.bits .and .i64 (wrap64 (bt a0 x1_1)) 63) * 256)) (wrap64 (bt a0 (ji30)))), (wrap64 (x1_1 + 2)), (by first | rfl | (simp; done) | (simp only [← hji30] <;> (first | rfl | simp)) | (simp [*]; done)), (by first | rfl | (simp; done) | (simp only [← hji30] <;> (first | rfl | simp)) | (simp [*]; done)), (by first | rfl | (simp; done) | (simp [*]; done)), H', ⟨by have := HK1.out; have := HJ3.out; have := HJ18.out; have := HJ26.out; omega⟩, ⟨by (with_reducible repeat (first | apply Kd.R_alloc | apply Kd.R_drewN | apply Kd.R_drew)); exact HO_7.out⟩, ⟨by repeat (first | (with_reducible first | exact HB.out | apply below_alloc | apply pw_below_drewN | apply below_drew1) | exact HB.out)⟩⟩
                                      · rw [if_neg c35] at H
                                        have c35b0 : decide (x9_1 < 0) = false := decide_eq_false c35
                                        clear c35
                                        have H' := Aside0.mk H
                                        clear H
                                        have p33 : 0 ≤ ((ji30) : Int) := of_decide_eq_true (by first | (with_reducible assumption) | assumption)
                                        have q33 : (ji30) < (a0.size : Int) := of_decide_eq_true (by first | (with_reducible assumption) | assumption)
                                        have hx33 := bt_at a0 (ji30)
                                        replace p33 := eq_true p33
                                        replace q33 := eq_true q33
                                        go_wp2
                                        go_roundg kj26
                                        case measure => have := HK1.out; have := HJ3.out; have := HJ18.out; have := HJ26.out; omega
                                        case rel => exact ⟨(Go.bits .or .i64 (wrap64 ((Go.bits .and .i64 (wrap64 (bt a0 x1_1)) 63) * 256)) (wrap64 (bt a0 (ji30)))), (x7_1), (Go.bits .or .i64 (wrap64 ((Go.bits .and .i64 (wrap64 (bt a0 x1_1)) 63) * 256)) (wrap64 (bt a0 (ji30)))), (x9_1), (by first | rfl | (simp; done) | (simp only [← hji30] <;> (first | rfl | simp)) | (simp [*]; done)), (by first | rfl | (simp; done) | (simp only [← hji30] <;> (first | rfl | simp)) | (simp [*]; done)), (by first | rfl | (simp; done) | (simp [*]; done)), H', ⟨by have := HK1.out; have := HJ3.out; have := HJ18.out; have := HJ26.out; omega⟩, ⟨by (with_reducible repeat (first | apply Kd.R_alloc | apply Kd.R_drewN | apply Kd.R_drew)); exact HO_7.out⟩, ⟨by repeat (first | (with_reducible first | exact HB.out | apply below_alloc | apply pw_below_drewN | apply below_drew1) | exact HB.out)⟩⟩
                                  · rw [if_neg c32] at H
                                    exact absurd H (by simp)
                                · rw [if_neg c31] at H
                                  exact absurd H (by simp)
                              · replace c29 := Bool.eq_false_iff.mpr c29
                                subst c29
                                have H1 : (some ((⟨#[]⟩ : ByteArray), 0, 500)) = some (r1, r2, r3) := by rw [if_neg (show ¬ (false = true) by decide)] at H; exact H
                                clear H
                                have H := H1
                                clear H1
                                simp only [Option.some.injEq, Prod.mk.injEq] at H
                                obtain ⟨rfl, rfl, rfl⟩ := H
                                go_wp2
                                go_ret3
                                exact ⟨by first | rfl | (simp [errW_none, errW_some] <;> rfl) | (simp [*, errW_none, errW_some] <;> rfl), by repeat (first | (with_reducible first | exact HB.out | apply below_alloc | apply pw_below_drewN | apply below_drew1) | exact HB.out)⟩
                · rw [if_neg c9] at H
                  exact absurd H (by simp)
              · rw [if_neg c8] at H
                exact absurd H (by simp)
            · replace c7 := Bool.eq_false_iff.mpr c7
              subst c7
              have H1 : (some ((⟨#[]⟩ : ByteArray), 0, 500)) = some (r1, r2, r3) := by rw [if_neg (show ¬ (false = true) by decide)] at H; exact H
              clear H
              have H := H1
              clear H1
              simp only [Option.some.injEq, Prod.mk.injEq] at H
              obtain ⟨rfl, rfl, rfl⟩ := H
              go_wp2
              go_ret3
              exact ⟨by first | rfl | (simp [errW_none, errW_some] <;> rfl) | (simp [*, errW_none, errW_some] <;> rfl), by repeat (first | (with_reducible first | exact HB.out | apply below_alloc | apply pw_below_drewN | apply below_drew1) | exact HB.out)⟩

-- NOT PRINTED: function 72 (name_Places)

end Go.Proofs.Ytjklgdpffmaamaa.PCm

namespace Go.Proofs.Ytjklgdpffmaamaa.PCm
open Go.RowKit Go.Proofs.YtjklgdpffmaamaaW.PrintWords Go.Proofs.YtjklgdpffmaamaaW.PrintLast Go.Proofs.YtjklgdpffmaamaaW.PrintMore
attribute [local go_sem] max2_int min2_int max_two min_two max_three min_three max_four min_four   -- for this text's walks alone
set_option linter.unusedVariables false
set_option linter.unusedSimpArgs false

/-! ### rdata_May: function 102 -/
def rdata_May.f (a0 : Int) (a1 : ByteArray) : Option (Bool) := if a1.size ≤ 9223372036854775000 then some (Go.Proofs.Ytjklgdpffmaamaa.Rd.mayD a0 a1) else none
set_option maxHeartbeats 8000000 in
set_option maxRecDepth 100000 in
theorem rdata_May.calls (a0 : Int) (a1 : ByteArray) (r : Bool) (w : World) (h : rdata_May.f a0 a1 = some r) :
    Calls Try.prog 102 #[.int .i64 a0, .string a1] w fun e w' => e = .returned (.bool r) ∧ Below w.heap.size w w' := by
  unfold rdata_May.f at h
  split at h
  · rename_i hs
    simp only [Option.some.injEq] at h
    subst h
    exact Go.Proofs.Ytjklgdpffmaamaa.Rd.dmay a0 a1 w hs
  · cases h

/-! ### comp_shape: function 104 -/
def comp_shape.j0 : Nat → Int → Bool → Option (Int × Int × Int)
  | 0, _, _ => none
  | k + 1, x5, x6 => if x6 = true then (some (0, 1, 0)) else (if x5 = 15 then (some (2, 1, 0)) else (if x5 = 6 then (some (0, 2, 20)) else (some (0, 0, 0))))
def comp_shape.f (k : Nat) (a0 : Int) : Option (Int × Int × Int) := if a0 = 2 then (comp_shape.j0 k a0 (a0 == 2)) else (if a0 = 5 then (comp_shape.j0 k a0 (a0 == 5)) else (comp_shape.j0 k a0 (a0 == 12)))
theorem comp_shape.mono_l : ∀ k, (∀ y0 y1, LeO (comp_shape.j0 k y0 y1) (comp_shape.j0 (k + 1) y0 y1))
  | 0 => fun _ _ r h => by simp [comp_shape.j0] at h
  | k + 1 => by
    have ih0 := comp_shape.mono_l k
    · intro y0 y1
      unfold comp_shape.j0
      repeat' first
      | (with_reducible exact ih0 _ _)
      | (with_reducible exact LeO.refl _)
      | (with_reducible exact LeO.none _)
      | (with_reducible refine LeO.ite ?_ ?_)
      | (with_reducible refine LeO.bind ?_ (fun _ => ?_))
      | exact ih0 _ _
      | exact LeO.none _
      | refine LeO.ite ?_ ?_
      | refine LeO.bind ?_ (fun _ => ?_)
theorem comp_shape.mono : ∀ a0 k, LeO (comp_shape.f k a0) (comp_shape.f (k + 1) a0) := by
  intro a0 k
  have ih0 := comp_shape.mono_l k
  unfold comp_shape.f
  repeat' first
      | (with_reducible exact ih0 _ _)
      | (with_reducible exact LeO.refl _)
      | (with_reducible exact LeO.none _)
      | (with_reducible refine LeO.ite ?_ ?_)
      | (with_reducible refine LeO.bind ?_ (fun _ => ?_))
      | exact ih0 _ _
      | exact LeO.none _
      | refine LeO.ite ?_ ?_
      | refine LeO.bind ?_ (fun _ => ?_)
set_option maxHeartbeats 8000000 in
set_option maxRecDepth 100000 in
theorem comp_shape.calls (k : Nat) (a0 : Int) (r1 : Int) (r2 : Int) (r3 : Int) (w : World) (h : comp_shape.f k a0 = some (r1, r2, r3)) :
    Calls Try.prog 104 #[.int .i64 a0] w fun e w' => e = .returned (.tuple #[.int .i64 r1, .int .i64 r2, .int .i64 r3]) ∧ Drawn0 w w' := by
  have H : (if a0 = 2 then (comp_shape.j0 k a0 (a0 == 2)) else (if a0 = 5 then (comp_shape.j0 k a0 (a0 == 5)) else (comp_shape.j0 k a0 (a0 == 12)))) = some (r1, r2, r3) := h
  clear h
  have HC2 := Aside0.mk H
  clear H
  go_enter Try.func104, Try.ntmps104
  go_upto_if 6 with (fail)
  go_cut [6] (fun v6 wc => ∃ (kq : Nat) (x6_1 : Bool), v6 = .bool x6_1 ∧ Aside0 (comp_shape.j0 kq a0 x6_1 = some (r1, r2, r3)) ∧ Aside0 (kq ≤ k) ∧ Drawn0 w wc)
  case first =>
    have H := HC2.out
    clear HC2
    by_cases c3 : a0 = 2
    · rw [if_pos c3] at H
      have c3b0 : (a0 == 2) = true := beq_iff_eq.mpr c3
      have c3b1 : (a0 != 2) = false := bne_eq_false_iff_eq.mpr c3
      clear c3
      (first | rw [c3b0] | (simp only [i64_w, i32_w]; rw [c3b0]) | skip)
      have H' := Aside0.mk H
      clear H
      go_wp2
      go_meet
      case rel => exact ⟨_, ((a0 == 2)), (by first | rfl | (simp; done) | (simp [*]; done)), H', ⟨by first | omega | exact Nat.le_refl _⟩, by repeat (first | exact Drawn0.refl _ | apply Drawn0.step)⟩
    · rw [if_neg c3] at H
      have c3b0 : (a0 == 2) = false := beq_eq_false_iff_ne.mpr c3
      have c3b1 : (a0 != 2) = true := bne_iff_ne.mpr c3
      (first | rw [c3b0] | (simp only [i64_w, i32_w]; rw [c3b0]) | skip)
      by_cases c4 : a0 = 5
      · rw [if_pos c4] at H
        have c4b0 : (a0 == 5) = true := beq_iff_eq.mpr c4
        have c4b1 : (a0 != 5) = false := bne_eq_false_iff_eq.mpr c4
        clear c4
        have H' := Aside0.mk H
        clear H
        go_wp2
        go_meet
        case rel => exact ⟨_, ((a0 == 5)), (by first | rfl | (simp; done) | (simp [*]; done)), H', ⟨by first | omega | exact Nat.le_refl _⟩, by repeat (first | exact Drawn0.refl _ | apply Drawn0.step)⟩
      · rw [if_neg c4] at H
        have c4b0 : (a0 == 5) = false := beq_eq_false_iff_ne.mpr c4
        have c4b1 : (a0 != 5) = true := bne_iff_ne.mpr c4
        have H' := Aside0.mk H
        clear H
        go_wp2
        go_meet
        case rel => exact ⟨_, ((a0 == 12)), (by first | rfl | (simp; done) | (simp [*]; done)), H', ⟨by first | omega | exact Nat.le_refl _⟩, by repeat (first | exact Drawn0.refl _ | apply Drawn0.step)⟩
  case rest =>
    clear HC2
    try clear c1
    try clear p2
    try clear c3
    try clear c3b0
    try clear c3b1
    try clear c4
    try clear c4b0
    try clear c4b1
    obtain ⟨kq, x6_1, rfl, HA, HJ1, ⟨mc1, rfl⟩⟩ := hcut
    cases kq with
    | zero => exact absurd HA.out (by simp [comp_shape.j0])
    | succ kj1 =>
      have H := HA.out
      clear HA
      simp only [comp_shape.j0] at H
      by_cases c5 : x6_1 = true
      · subst c5
        have H1 : (some (0, 1, 0)) = some (r1, r2, r3) := by rw [if_pos rfl] at H; exact H
        clear H
        have H := H1
        clear H1
        simp only [Option.some.injEq, Prod.mk.injEq] at H
        obtain ⟨rfl, rfl, rfl⟩ := H
        go_wp2
        go_ret3
        exact ⟨by first | rfl | (simp; done) | (simp [*]; done), by repeat (first | exact Drawn0.refl _ | apply Drawn0.step)⟩
      · replace c5 := Bool.eq_false_iff.mpr c5
        subst c5
        have H1 : (if a0 = 15 then (some (2, 1, 0)) else (if a0 = 6 then (some (0, 2, 20)) else (some (0, 0, 0)))) = some (r1, r2, r3) := by rw [if_neg (show ¬ (false = true) by decide)] at H; exact H
        clear H
        have H := H1
        clear H1
        by_cases c6 : a0 = 15
        · rw [if_pos c6] at H
          have c6b0 : (a0 == 15) = true := beq_iff_eq.mpr c6
          have c6b1 : (a0 != 15) = false := bne_eq_false_iff_eq.mpr c6
          clear c6
          simp only [Option.some.injEq, Prod.mk.injEq] at H
          obtain ⟨rfl, rfl, rfl⟩ := H
          go_wp2
          go_ret3
          exact ⟨by first | rfl | (simp; done) | (simp [*]; done), by repeat (first | exact Drawn0.refl _ | apply Drawn0.step)⟩
        · rw [if_neg c6] at H
          have c6b0 : (a0 == 15) = false := beq_eq_false_iff_ne.mpr c6
          have c6b1 : (a0 != 15) = true := bne_iff_ne.mpr c6
          by_cases c7 : a0 = 6
          · rw [if_pos c7] at H
            have c7b0 : (a0 == 6) = true := beq_iff_eq.mpr c7
            have c7b1 : (a0 != 6) = false := bne_eq_false_iff_eq.mpr c7
            clear c7
            simp only [Option.some.injEq, Prod.mk.injEq] at H
            obtain ⟨rfl, rfl, rfl⟩ := H
            go_wp2
            go_ret3
            exact ⟨by first | rfl | (simp; done) | (simp [*]; done), by repeat (first | exact Drawn0.refl _ | apply Drawn0.step)⟩
          · rw [if_neg c7] at H
            have c7b0 : (a0 == 6) = false := beq_eq_false_iff_ne.mpr c7
            have c7b1 : (a0 != 6) = true := bne_iff_ne.mpr c7
            simp only [Option.some.injEq, Prod.mk.injEq] at H
            obtain ⟨rfl, rfl, rfl⟩ := H
            go_wp2
            go_ret3
            exact ⟨by first | rfl | (simp; done) | (simp [*]; done), by repeat (first | exact Drawn0.refl _ | apply Drawn0.step)⟩

/-! ### comp_names: function 105 -/
def comp_names.l0 : Nat → ByteArray → Int → ByteArray → Int → Int → Option (ByteArray × Int × Int)
  | 0, _, _, _, _, _ => none
  | k + 1, x0, x1, x9, x13, x14 => if x14 < x13 then ((comp_Name.f k x0 x1).bind fun bt113 => (if bt113.2.2 = 0 then (if x9.size + bt113.1.size ≤ 9223372036854775807 then (comp_names.l0 k x0 bt113.2.1 (x9 ++ bt113.1) x13 (wrap64 (x14 + 1))) else (none)) else (some ((⟨#[]⟩ : ByteArray), 0, bt113.2.2)))) else (some (x9, x1, 0))
def comp_names.f (k : Nat) (a0 : ByteArray) (a1 : Int) (a2 : Int) : Option (ByteArray × Int × Int) := comp_names.l0 k a0 a1 (⟨#[]⟩ : ByteArray) a2 0
theorem comp_names.mono_l : ∀ k, (∀ y0 y1 y2 y3 y4, LeO (comp_names.l0 k y0 y1 y2 y3 y4) (comp_names.l0 (k + 1) y0 y1 y2 y3 y4))
  | 0 => fun _ _ _ _ _ r h => by simp [comp_names.l0] at h
  | k + 1 => by
    have ih0 := comp_names.mono_l k
    · intro y0 y1 y2 y3 y4
      unfold comp_names.l0
      repeat' first
      | (with_reducible exact ih0 _ _ _ _ _)
      | (with_reducible exact comp_Name.mono _ _ _)
      | (with_reducible exact LeO.refl _)
      | (with_reducible exact LeO.none _)
      | (with_reducible refine LeO.ite ?_ ?_)
      | (with_reducible refine LeO.bind ?_ (fun _ => ?_))
      | exact ih0 _ _ _ _ _
      | exact comp_Name.mono _ _ _
      | exact LeO.none _
      | refine LeO.ite ?_ ?_
      | refine LeO.bind ?_ (fun _ => ?_)
theorem comp_names.mono : ∀ a0 a1 a2 k, LeO (comp_names.f k a0 a1 a2) (comp_names.f (k + 1) a0 a1 a2) := by
  intro a0 a1 a2 k
  have ih0 := comp_names.mono_l k
  unfold comp_names.f
  repeat' first
      | (with_reducible exact ih0 _ _ _ _ _)
      | (with_reducible exact comp_Name.mono _ _ _)
      | (with_reducible exact LeO.refl _)
      | (with_reducible exact LeO.none _)
      | (with_reducible refine LeO.ite ?_ ?_)
      | (with_reducible refine LeO.bind ?_ (fun _ => ?_))
      | exact ih0 _ _ _ _ _
      | exact comp_Name.mono _ _ _
      | exact LeO.none _
      | refine LeO.ite ?_ ?_
      | refine LeO.bind ?_ (fun _ => ?_)
set_option maxHeartbeats 8000000 in
set_option maxRecDepth 100000 in
theorem comp_names.calls (k : Nat) (a0 : ByteArray) (a1 : Int) (a2 : Int) (r1 : ByteArray) (r2 : Int) (r3 : Int) (w : World) (h : comp_names.f k a0 a1 a2 = some (r1, r2, r3)) :
    Calls Try.prog 105 #[.string a0, .int .i64 a1, .int .i64 a2] w fun e w' => e = .returned (.tuple #[.string r1, .int .i64 r2, .int .i64 r3]) ∧ Below w.heap.size w w' := by
  have HB := Aside0.mk (Below.refl w.heap.size w)
  have H : (comp_names.l0 k a0 a1 (⟨#[]⟩ : ByteArray) a2 0) = some (r1, r2, r3) := h
  clear h
  have H' := Aside0.mk H
  clear H
  go_enter Try.func105, Try.ntmps105
  go_wp2
  go_loopg [1, 9, 14] k (fun kq v1 v9 v14 w' => ∃ (x1_1 : Int) (x9_1 : ByteArray) (x14_1 : Int), v1 = .int .i64 x1_1 ∧ v9 = .string x9_1 ∧ v14 = .int .i64 x14_1 ∧ Aside0 (comp_names.l0 kq a0 x1_1 x9_1 a2 x14_1 = some (r1, r2, r3)) ∧ Aside0 (kq ≤ k) ∧ Aside0 (Below w.heap.size w w'))
  case atStart => exact ⟨(a1), ((⟨#[]⟩ : ByteArray)), (0), (by first | rfl | (simp; done) | (simp [*]; done)), (by first | rfl | (simp; done) | (simp [*]; done)), (by first | rfl | (simp; done) | (simp [*]; done)), H', ⟨Nat.le_refl _⟩, ⟨by repeat (first | (with_reducible first | exact HB.out | apply below_alloc | apply pw_below_drewN | apply below_drew1) | exact HB.out)⟩⟩
  case round =>
    clear H'
    try clear c1
    try clear p2
    obtain ⟨x1_1, x9_1, x14_1, rfl, rfl, rfl, HA, HK1, HB⟩ := hrel
    cases gk with
    | zero => exact absurd HA.out (by simp [comp_names.l0])
    | succ k1 =>
      have H := HA.out
      clear HA
      simp only [comp_names.l0] at H
      by_cases c4 : x14_1 < a2
      · rw [if_pos c4] at H
        have c4b0 : decide (x14_1 < a2) = true := decide_eq_true c4
        clear c4
        replace H := Option.bind_eq_some_iff.mp H
        obtain ⟨⟨t113, t114, t115⟩, A50, H⟩ := H
        replace H : (if t115 = 0 then (if x9_1.size + t113.size ≤ 9223372036854775807 then (comp_names.l0 k1 a0 t114 (x9_1 ++ t113) a2 (wrap64 (x14_1 + 1))) else (none)) else (some ((⟨#[]⟩ : ByteArray), 0, t115))) = some (r1, r2, r3) := H
        have A5 := Aside0.mk A50
        clear A50
        by_cases c6 : t115 = 0
        · rw [if_pos c6] at H
          have c6b0 : (t115 == 0) = true := beq_iff_eq.mpr c6
          have c6b1 : (t115 != 0) = false := bne_eq_false_iff_eq.mpr c6
          clear c6
          by_cases c7 : x9_1.size + t113.size ≤ 9223372036854775807
          · rw [if_pos c7] at H
            have c7b0 := eq_true c7
            have c7b1 : decide (x9_1.size + t113.size ≤ 9223372036854775807) = true := decide_eq_true c7
            try have c7b2 : (9223372036854775807 < x9_1.size + t113.size) = False := eq_false (Nat.not_lt.2 c7)
            have H' := Aside0.mk H
            clear H
            go_wp2_with (first | ((with_reducible refine gate_dst (N := 19) rfl ?_); (with_reducible refine gate_callee (f := 94) rfl ?_); refine goesL_ (some 19) rfl rfl Try.func94 (by kernel_rfl) rfl #[.string a0, .int .i64 x1_1] rfl (by (try simp only [List.map_toArray, List.map_cons, List.map_nil]); first | done | rfl | (simp only [List.length_drop, List.length_take]; rfl)) ?_; (with_reducible refine (comp_Name.calls k1 a0 x1_1 t113 t114 t115 _ A5.out).mono ?_); rintro e w8 ⟨rfl, hb⟩; refine ⟨_, rfl, ?_⟩; have n0_ := Aside0.mk (below_step (by repeat (first | (with_reducible first | exact HB.out | apply below_alloc | apply pw_below_drewN | apply below_drew1) | exact HB.out)) hb); clear HB; have HB := n0_; clear n0_; (try clear hb); (try clear hb2); (try clear hk); (try clear hi)))
            go_roundg k1
            case measure => have := HK1.out; omega
            case rel => exact ⟨(t114), (x9_1 ++ t113), (wrap64 (x14_1 + 1)), (by first | rfl | (simp; done) | (simp [*]; done)), (by first | rfl | (simp; done) | (simp [*]; done)), (by first | rfl | (simp; done) | (simp [*]; done)), H', ⟨by have := HK1.out; omega⟩, ⟨by repeat (first | (with_reducible first | exact HB.out | apply below_alloc | apply pw_below_drewN | apply below_drew1) | exact HB.out)⟩⟩
          · rw [if_neg c7] at H
            exact absurd H (by simp)
        · rw [if_neg c6] at H
          have c6b0 : (t115 == 0) = false := beq_eq_false_iff_ne.mpr c6
          have c6b1 : (t115 != 0) = true := bne_iff_ne.mpr c6
          simp only [Option.some.injEq, Prod.mk.injEq] at H
          obtain ⟨rfl, rfl, rfl⟩ := H
          go_wp2_with (first | ((with_reducible refine gate_dst (N := 19) rfl ?_); (with_reducible refine gate_callee (f := 94) rfl ?_); refine goesL_ (some 19) rfl rfl Try.func94 (by kernel_rfl) rfl #[.string a0, .int .i64 x1_1] rfl (by (try simp only [List.map_toArray, List.map_cons, List.map_nil]); first | done | rfl | (simp only [List.length_drop, List.length_take]; rfl)) ?_; (with_reducible refine (comp_Name.calls k1 a0 x1_1 t113 t114 t115 _ A5.out).mono ?_); rintro e w9 ⟨rfl, hb⟩; refine ⟨_, rfl, ?_⟩; have n0_ := Aside0.mk (below_step (by repeat (first | (with_reducible first | exact HB.out | apply below_alloc | apply pw_below_drewN | apply below_drew1) | exact HB.out)) hb); clear HB; have HB := n0_; clear n0_; (try clear hb); (try clear hb2); (try clear hk); (try clear hi)))
          go_ret3
          exact ⟨by first | rfl | (simp [errW_none, errW_some] <;> rfl) | (simp [*, errW_none, errW_some] <;> rfl), by repeat (first | (with_reducible first | exact HB.out | apply below_alloc | apply pw_below_drewN | apply below_drew1) | exact HB.out)⟩
      · rw [if_neg c4] at H
        have c4b0 : decide (x14_1 < a2) = false := decide_eq_false c4
        clear c4
        simp only [Option.some.injEq, Prod.mk.injEq] at H
        obtain ⟨rfl, rfl, rfl⟩ := H
        go_wp2
        go_ret3
        exact ⟨by first | rfl | (simp [errW_none, errW_some] <;> rfl) | (simp [*, errW_none, errW_some] <;> rfl), by repeat (first | (with_reducible first | exact HB.out | apply below_alloc | apply pw_below_drewN | apply below_drew1) | exact HB.out)⟩

/-! ### comp_Data: function 97 -/
mutual
def comp_Data.j0 : Nat → ByteArray → Int → Int → Int → Bool → Option (ByteArray × Int)
  | 0, _, _, _, _, _ => none
  | k + 1, x0, x1, x2, x3, x37 => if x37 = true then (some ((⟨#[]⟩ : ByteArray), 500)) else (if 0 ≤ x1 then (if x1 ≤ (wrap64 (x1 + x2)) then (if (wrap64 (x1 + x2)) ≤ (x0.size : Int) then ((comp_shape.f k x3).bind fun bt116 => (if bt116.2.1 > 0 then (if x2 < (wrap64 (bt116.1 + bt116.2.2)) then (some ((⟨#[]⟩ : ByteArray), 500)) else ((comp_names.f k x0 (wrap64 (x1 + bt116.1)) bt116.2.1).bind fun bt119 => (if bt119.2.2 = 0 then (comp_Data.j1 k x0 x1 x3 (wrap64 (x1 + x2)) bt116.1 bt119.1 bt119.2.1 (bt119.2.1 != (wrap64 ((wrap64 (x1 + x2)) - bt116.2.2)))) else (comp_Data.j1 k x0 x1 x3 (wrap64 (x1 + x2)) bt116.1 bt119.1 bt119.2.1 true)))) else ((rdata_May.f x3 (x0.extract (x1 : Int).toNat ((wrap64 (x1 + x2)) : Int).toNat)).bind fun t123 => (if t123 = true then (some (x0.extract (x1 : Int).toNat ((wrap64 (x1 + x2)) : Int).toNat, 0)) else (some ((⟨#[]⟩ : ByteArray), 500)))))) else (none)) else (none)) else (none))
def comp_Data.j1 : Nat → ByteArray → Int → Int → Int → Int → ByteArray → Int → Bool → Option (ByteArray × Int)
  | 0, _, _, _, _, _, _, _, _ => none
  | k + 1, x0, x1, x3, x10, x12, x15, x16, x76 => if x76 = true then (some ((⟨#[]⟩ : ByteArray), 500)) else (if 0 ≤ x1 then (if x1 ≤ (wrap64 (x1 + x12)) then (if (wrap64 (x1 + x12)) ≤ (x0.size : Int) then (if (x0.extract (x1 : Int).toNat ((wrap64 (x1 + x12)) : Int).toNat).size + x15.size ≤ 9223372036854775807 then (if 0 ≤ x16 then (if x16 ≤ x10 then (if x10 ≤ (x0.size : Int) then (if ((x0.extract (x1 : Int).toNat ((wrap64 (x1 + x12)) : Int).toNat) ++ x15).size + (x0.extract (x16 : Int).toNat (x10 : Int).toNat).size ≤ 9223372036854775807 then ((rdata_May.f x3 (((x0.extract (x1 : Int).toNat ((wrap64 (x1 + x12)) : Int).toNat) ++ x15) ++ (x0.extract (x16 : Int).toNat (x10 : Int).toNat))).bind fun t122 => (if t122 = true then (some (((x0.extract (x1 : Int).toNat ((wrap64 (x1 + x12)) : Int).toNat) ++ x15) ++ (x0.extract (x16 : Int).toNat (x10 : Int).toNat), 0)) else (some ((⟨#[]⟩ : ByteArray), 500)))) else (none)) else (none)) else (none)) else (none)) else (none)) else (none)) else (none)) else (none))
end
def comp_Data.f (k : Nat) (a0 : ByteArray) (a1 : Int) (a2 : Int) (a3 : Int) : Option (ByteArray × Int) := if a1 < 0 then (comp_Data.j0 k a0 a1 a2 a3 true) else (if a2 < 0 then (comp_Data.j0 k a0 a1 a2 a3 true) else (if a1 > (a0.size : Int) then (comp_Data.j0 k a0 a1 a2 a3 true) else (comp_Data.j0 k a0 a1 a2 a3 (decide (a2 > (wrap64 ((a0.size : Int) - a1)))))))
theorem comp_Data.mono_l : ∀ k, (∀ y0 y1 y2 y3 y4, LeO (comp_Data.j0 k y0 y1 y2 y3 y4) (comp_Data.j0 (k + 1) y0 y1 y2 y3 y4)) ∧ (∀ y0 y1 y2 y3 y4 y5 y6 y7, LeO (comp_Data.j1 k y0 y1 y2 y3 y4 y5 y6 y7) (comp_Data.j1 (k + 1) y0 y1 y2 y3 y4 y5 y6 y7))
  | 0 => ⟨fun _ _ _ _ _ r h => by simp [comp_Data.j0] at h, fun _ _ _ _ _ _ _ _ r h => by simp [comp_Data.j1] at h⟩
  | k + 1 => by
    obtain ⟨ih0, ih1⟩ := comp_Data.mono_l k
    refine ⟨?_, ?_⟩
    · intro y0 y1 y2 y3 y4
      unfold comp_Data.j0
      repeat' first
      | (with_reducible exact ih0 _ _ _ _ _)
      | (with_reducible exact ih1 _ _ _ _ _ _ _ _)
      | (with_reducible exact comp_names.mono _ _ _ _)
      | (with_reducible exact comp_shape.mono _ _)
      | (with_reducible exact LeO.refl _)
      | (with_reducible exact LeO.none _)
      | (with_reducible refine LeO.ite ?_ ?_)
      | (with_reducible refine LeO.bind ?_ (fun _ => ?_))
      | exact ih0 _ _ _ _ _
      | exact ih1 _ _ _ _ _ _ _ _
      | exact comp_names.mono _ _ _ _
      | exact comp_shape.mono _ _
      | exact LeO.none _
      | refine LeO.ite ?_ ?_
      | refine LeO.bind ?_ (fun _ => ?_)
    · intro y0 y1 y2 y3 y4 y5 y6 y7
      unfold comp_Data.j1
      repeat' first
      | (with_reducible exact ih0 _ _ _ _ _)
      | (with_reducible exact ih1 _ _ _ _ _ _ _ _)
      | (with_reducible exact comp_names.mono _ _ _ _)
      | (with_reducible exact comp_shape.mono _ _)
      | (with_reducible exact LeO.refl _)
      | (with_reducible exact LeO.none _)
      | (with_reducible refine LeO.ite ?_ ?_)
      | (with_reducible refine LeO.bind ?_ (fun _ => ?_))
      | exact ih0 _ _ _ _ _
      | exact ih1 _ _ _ _ _ _ _ _
      | exact comp_names.mono _ _ _ _
      | exact comp_shape.mono _ _
      | exact LeO.none _
      | refine LeO.ite ?_ ?_
      | refine LeO.bind ?_ (fun _ => ?_)
theorem comp_Data.mono : ∀ a0 a1 a2 a3 k, LeO (comp_Data.f k a0 a1 a2 a3) (comp_Data.f (k + 1) a0 a1 a2 a3) := by
  intro a0 a1 a2 a3 k
  obtain ⟨ih0, ih1⟩ := comp_Data.mono_l k
  unfold comp_Data.f
  repeat' first
      | (with_reducible exact ih0 _ _ _ _ _)
      | (with_reducible exact ih1 _ _ _ _ _ _ _ _)
      | (with_reducible exact comp_names.mono _ _ _ _)
      | (with_reducible exact comp_shape.mono _ _)
      | (with_reducible exact LeO.refl _)
      | (with_reducible exact LeO.none _)
      | (with_reducible refine LeO.ite ?_ ?_)
      | (with_reducible refine LeO.bind ?_ (fun _ => ?_))
      | exact ih0 _ _ _ _ _
      | exact ih1 _ _ _ _ _ _ _ _
      | exact comp_names.mono _ _ _ _
      | exact comp_shape.mono _ _
      | exact LeO.none _
      | refine LeO.ite ?_ ?_
      | refine LeO.bind ?_ (fun _ => ?_)
set_option maxHeartbeats 8000000 in
set_option maxRecDepth 100000 in
theorem comp_Data.calls (k : Nat) (a0 : ByteArray) (a1 : Int) (a2 : Int) (a3 : Int) (r1 : ByteArray) (r2 : Int) (w : World) (h : comp_Data.f k a0 a1 a2 a3 = some (r1, r2)) :
    Calls Try.prog 97 #[.string a0, .int .i64 a1, .int .i64 a2, .int .i64 a3] w fun e w' => e = .returned (.tuple #[.string r1, .int .i64 r2]) ∧ Below w.heap.size w w' := by
  have HB := Aside0.mk (Below.refl w.heap.size w)
  have H : (if a1 < 0 then (comp_Data.j0 k a0 a1 a2 a3 true) else (if a2 < 0 then (comp_Data.j0 k a0 a1 a2 a3 true) else (if a1 > (a0.size : Int) then (comp_Data.j0 k a0 a1 a2 a3 true) else (comp_Data.j0 k a0 a1 a2 a3 (decide (a2 > (wrap64 ((a0.size : Int) - a1)))))))) = some (r1, r2) := h
  clear h
  have HC5 := Aside0.mk H
  clear H
  go_enter Try.func97, Try.ntmps97
  go_upto_region 1 with (fail)
  repeat (go_quiet (fail); go_upto_region 1 with (fail))
  go_cut [37] (fun v37 wc => ∃ (kq : Nat) (x37_4 : Bool), v37 = .bool x37_4 ∧ Aside0 (comp_Data.j0 kq a0 a1 a2 a3 x37_4 = some (r1, r2)) ∧ Aside0 (kq ≤ k) ∧ Aside0 (Below w.heap.size w wc))
  case first =>
    have H := HC5.out
    clear HC5
    by_cases c6 : a1 < 0
    · rw [if_pos c6] at H
      have c6b0 : decide (a1 < 0) = true := decide_eq_true c6
      clear c6
      (first | rw [c6b0] | (simp only [i64_w, i32_w]; rw [c6b0]) | skip)
      have H' := Aside0.mk H
      clear H
      go_wp2
      repeat (go_quiet (fail); try go_wp2)
      go_meet
      case rel => exact ⟨_, (true), (by first | rfl | (simp; done) | (simp [*]; done)), H', ⟨by first | omega | exact Nat.le_refl _⟩, ⟨by repeat (first | (with_reducible first | exact HB.out | apply below_alloc | apply pw_below_drewN | apply below_drew1) | exact HB.out)⟩⟩
    · rw [if_neg c6] at H
      have c6b0 : decide (a1 < 0) = false := decide_eq_false c6
      clear c6
      (first | rw [c6b0] | (simp only [i64_w, i32_w]; rw [c6b0]) | skip)
      by_cases c7 : a2 < 0
      · rw [if_pos c7] at H
        have c7b0 : decide (a2 < 0) = true := decide_eq_true c7
        clear c7
        have H' := Aside0.mk H
        clear H
        go_wp2
        repeat (go_quiet (fail); try go_wp2)
        go_meet
        case rel => exact ⟨_, (true), (by first | rfl | (simp; done) | (simp [*]; done)), H', ⟨by first | omega | exact Nat.le_refl _⟩, ⟨by repeat (first | (with_reducible first | exact HB.out | apply below_alloc | apply pw_below_drewN | apply below_drew1) | exact HB.out)⟩⟩
      · rw [if_neg c7] at H
        have c7b0 : decide (a2 < 0) = false := decide_eq_false c7
        clear c7
        by_cases c8 : a1 > (a0.size : Int)
        · rw [if_pos c8] at H
          have c8b0 : decide ((a0.size : Int) < a1) = true := decide_eq_true c8
          clear c8
          have H' := Aside0.mk H
          clear H
          go_wp2
          repeat (go_quiet (fail); try go_wp2)
          go_meet
          case rel => exact ⟨_, (true), (by first | rfl | (simp; done) | (simp [*]; done)), H', ⟨by first | omega | exact Nat.le_refl _⟩, ⟨by repeat (first | (with_reducible first | exact HB.out | apply below_alloc | apply pw_below_drewN | apply below_drew1) | exact HB.out)⟩⟩
        · rw [if_neg c8] at H
          have c8b0 : decide ((a0.size : Int) < a1) = false := decide_eq_false c8
          clear c8
          have H' := Aside0.mk H
          clear H
          go_wp2
          repeat (go_quiet (fail); try go_wp2)
          go_meet
          case rel => exact ⟨_, (decide (a2 > (wrap64 ((a0.size : Int) - a1)))), (by first | rfl | (simp; done) | (simp [*]; done)), H', ⟨by first | omega | exact Nat.le_refl _⟩, ⟨by repeat (first | (with_reducible first | exact HB.out | apply below_alloc | apply pw_below_drewN | apply below_drew1) | exact HB.out)⟩⟩
  case rest =>
    clear HC5
    try clear p2
    try clear c6
    try clear c6b0
    try clear p6
    try clear c7
    try clear c7b0
    try clear c8
    try clear c8b0
    obtain ⟨kq, x37_4, rfl, HA, HJ4, HB⟩ := hcut
    cases kq with
    | zero => exact absurd HA.out (by simp [comp_Data.j0])
    | succ kj4 =>
      have H := HA.out
      clear HA
      simp only [comp_Data.j0] at H
      by_cases c9 : x37_4 = true
      · subst c9
        have H1 : (some ((⟨#[]⟩ : ByteArray), 500)) = some (r1, r2) := by rw [if_pos rfl] at H; exact H
        clear H
        have H := H1
        clear H1
        simp only [Option.some.injEq, Prod.mk.injEq] at H
        obtain ⟨rfl, rfl⟩ := H
        go_wp2
        repeat (go_quiet (fail); try go_wp2)
        go_ret2
        exact ⟨by first | rfl | (simp [errW_none, errW_some] <;> rfl) | (simp [*, errW_none, errW_some] <;> rfl), by repeat (first | (with_reducible first | exact HB.out | apply below_alloc | apply pw_below_drewN | apply below_drew1) | exact HB.out)⟩
      · replace c9 := Bool.eq_false_iff.mpr c9
        subst c9
        have H1 : (if 0 ≤ a1 then (if a1 ≤ (wrap64 (a1 + a2)) then (if (wrap64 (a1 + a2)) ≤ (a0.size : Int) then ((comp_shape.f kj4 a3).bind fun bt116 => (if bt116.2.1 > 0 then (if a2 < (wrap64 (bt116.1 + bt116.2.2)) then (some ((⟨#[]⟩ : ByteArray), 500)) else ((comp_names.f kj4 a0 (wrap64 (a1 + bt116.1)) bt116.2.1).bind fun bt119 => (if bt119.2.2 = 0 then (comp_Data.j1 kj4 a0 a1 a3 (wrap64 (a1 + a2)) bt116.1 bt119.1 bt119.2.1 (bt119.2.1 != (wrap64 ((wrap64 (a1 + a2)) - bt116.2.2)))) else (comp_Data.j1 kj4 a0 a1 a3 (wrap64 (a1 + a2)) bt116.1 bt119.1 bt119.2.1 true)))) else ((rdata_May.f a3 (a0.extract (a1 : Int).toNat ((wrap64 (a1 + a2)) : Int).toNat)).bind fun t123 => (if t123 = true then (some (a0.extract (a1 : Int).toNat ((wrap64 (a1 + a2)) : Int).toNat, 0)) else (some ((⟨#[]⟩ : ByteArray), 500)))))) else (none)) else (none)) else (none)) = some (r1, r2) := by rw [if_neg (show ¬ (false = true) by decide)] at H; exact H
        clear H
        have H := H1
        clear H1
        by_cases c10 : 0 ≤ a1
        · rw [if_pos c10] at H
          have c10b0 := eq_true c10
          have c10b1 : decide (0 ≤ a1) = true := decide_eq_true c10
          clear c10
          by_cases c11 : a1 ≤ (wrap64 (a1 + a2))
          · rw [if_pos c11] at H
            have c11b0 := eq_true c11
            have c11b1 : decide (a1 ≤ (wrap64 (a1 + a2))) = true := decide_eq_true c11
            by_cases c12 : (wrap64 (a1 + a2)) ≤ (a0.size : Int)
            · rw [if_pos c12] at H
              have c12b0 := eq_true c12
              have c12b1 : decide ((wrap64 (a1 + a2)) ≤ (a0.size : Int)) = true := decide_eq_true c12
              replace H := Option.bind_eq_some_iff.mp H
              obtain ⟨⟨t116, t117, t118⟩, A130, H⟩ := H
              replace H : (if t117 > 0 then (if a2 < (wrap64 (t116 + t118)) then (some ((⟨#[]⟩ : ByteArray), 500)) else ((comp_names.f kj4 a0 (wrap64 (a1 + t116)) t117).bind fun bt119 => (if bt119.2.2 = 0 then (comp_Data.j1 kj4 a0 a1 a3 (wrap64 (a1 + a2)) t116 bt119.1 bt119.2.1 (bt119.2.1 != (wrap64 ((wrap64 (a1 + a2)) - t118)))) else (comp_Data.j1 kj4 a0 a1 a3 (wrap64 (a1 + a2)) t116 bt119.1 bt119.2.1 true)))) else ((rdata_May.f a3 (a0.extract (a1 : Int).toNat ((wrap64 (a1 + a2)) : Int).toNat)).bind fun t123 => (if t123 = true then (some (a0.extract (a1 : Int).toNat ((wrap64 (a1 + a2)) : Int).toNat, 0)) else (some ((⟨#[]⟩ : ByteArray), 500))))) = some (r1, r2) := H
              have A13 := Aside0.mk A130
              clear A130
              by_cases c14 : t117 > 0
              · rw [if_pos c14] at H
                have c14b0 : decide (0 < t117) = true := decide_eq_true c14
                clear c14
                by_cases c15 : a2 < (wrap64 (t116 + t118))
                · rw [if_pos c15] at H
                  have c15b0 : decide (a2 < (wrap64 (t116 + t118))) = true := decide_eq_true c15
                  clear c15
                  simp only [Option.some.injEq, Prod.mk.injEq] at H
                  obtain ⟨rfl, rfl⟩ := H
                  go_wp2_with (first | (go_at_call 104; (with_reducible refine (comp_shape.calls kj4 a3 t116 t117 t118 _ A13.out).mono ?_); rintro e w' ⟨rfl, ⟨nd, rfl⟩⟩; (try first | exact ⟨rfl, _, World.drewN_drewN _ _ _⟩ | exact ⟨rfl, _, Eq.trans (World.drewN_drewN _ _ _) (congrArg (World.drewN _) (Nat.add_assoc _ _ _))⟩)))
                  repeat (go_quiet (first | (go_at_call 104; (with_reducible refine (comp_shape.calls kj4 a3 t116 t117 t118 _ A13.out).mono ?_); rintro e w' ⟨rfl, ⟨nd, rfl⟩⟩; (try first | exact ⟨rfl, _, World.drewN_drewN _ _ _⟩ | exact ⟨rfl, _, Eq.trans (World.drewN_drewN _ _ _) (congrArg (World.drewN _) (Nat.add_assoc _ _ _))⟩))); try go_wp2_with (first | (go_at_call 104; (with_reducible refine (comp_shape.calls kj4 a3 t116 t117 t118 _ A13.out).mono ?_); rintro e w' ⟨rfl, ⟨nd, rfl⟩⟩; (try first | exact ⟨rfl, _, World.drewN_drewN _ _ _⟩ | exact ⟨rfl, _, Eq.trans (World.drewN_drewN _ _ _) (congrArg (World.drewN _) (Nat.add_assoc _ _ _))⟩))))
                  go_ret2
                  exact ⟨by first | rfl | (simp [errW_none, errW_some] <;> rfl) | (simp [*, errW_none, errW_some] <;> rfl), by repeat (first | (with_reducible first | exact HB.out | apply below_alloc | apply pw_below_drewN | apply below_drew1) | exact HB.out)⟩
                · rw [if_neg c15] at H
                  have c15b0 : decide (a2 < (wrap64 (t116 + t118))) = false := decide_eq_false c15
                  clear c15
                  replace H := Option.bind_eq_some_iff.mp H
                  obtain ⟨⟨t119, t120, t121⟩, A160, H⟩ := H
                  replace H : (if t121 = 0 then (comp_Data.j1 kj4 a0 a1 a3 (wrap64 (a1 + a2)) t116 t119 t120 (t120 != (wrap64 ((wrap64 (a1 + a2)) - t118)))) else (comp_Data.j1 kj4 a0 a1 a3 (wrap64 (a1 + a2)) t116 t119 t120 true)) = some (r1, r2) := H
                  have A16 := Aside0.mk A160
                  clear A160
                  have HC17 := Aside0.mk H
                  clear H
                  go_upto_region 10 with (first | (go_at_call 104; (with_reducible refine (comp_shape.calls kj4 a3 t116 t117 t118 _ A13.out).mono ?_); rintro e w' ⟨rfl, ⟨nd, rfl⟩⟩; (try first | exact ⟨rfl, _, World.drewN_drewN _ _ _⟩ | exact ⟨rfl, _, Eq.trans (World.drewN_drewN _ _ _) (congrArg (World.drewN _) (Nat.add_assoc _ _ _))⟩)) | (go_at_call 105; (with_reducible refine (comp_names.calls kj4 a0 (wrap64 (a1 + t116)) t117 t119 t120 t121 _ A16.out).mono ?_); rintro e w18 ⟨rfl, hb⟩; have n0_ := Aside0.mk (below_step (by repeat (first | (with_reducible first | exact HB.out | apply below_alloc | apply pw_below_drewN | apply below_drew1) | exact HB.out)) hb); clear HB; have HB := n0_; clear n0_; (try clear hb); (try clear hb2); (try clear hk); (try clear hi)))
                  repeat (go_quiet (first | (go_at_call 104; (with_reducible refine (comp_shape.calls kj4 a3 t116 t117 t118 _ A13.out).mono ?_); rintro e w' ⟨rfl, ⟨nd, rfl⟩⟩; (try first | exact ⟨rfl, _, World.drewN_drewN _ _ _⟩ | exact ⟨rfl, _, Eq.trans (World.drewN_drewN _ _ _) (congrArg (World.drewN _) (Nat.add_assoc _ _ _))⟩)) | (go_at_call 105; (with_reducible refine (comp_names.calls kj4 a0 (wrap64 (a1 + t116)) t117 t119 t120 t121 _ A16.out).mono ?_); rintro e w18 ⟨rfl, hb⟩; have n0_ := Aside0.mk (below_step (by repeat (first | (with_reducible first | exact HB.out | apply below_alloc | apply pw_below_drewN | apply below_drew1) | exact HB.out)) hb); clear HB; have HB := n0_; clear n0_; (try clear hb); (try clear hb2); (try clear hk); (try clear hi))); go_upto_region 10 with (first | (go_at_call 104; (with_reducible refine (comp_shape.calls kj4 a3 t116 t117 t118 _ A13.out).mono ?_); rintro e w' ⟨rfl, ⟨nd, rfl⟩⟩; (try first | exact ⟨rfl, _, World.drewN_drewN _ _ _⟩ | exact ⟨rfl, _, Eq.trans (World.drewN_drewN _ _ _) (congrArg (World.drewN _) (Nat.add_assoc _ _ _))⟩)) | (go_at_call 105; (with_reducible refine (comp_names.calls kj4 a0 (wrap64 (a1 + t116)) t117 t119 t120 t121 _ A16.out).mono ?_); rintro e w18 ⟨rfl, hb⟩; have n0_ := Aside0.mk (below_step (by repeat (first | (with_reducible first | exact HB.out | apply below_alloc | apply pw_below_drewN | apply below_drew1) | exact HB.out)) hb); clear HB; have HB := n0_; clear n0_; (try clear hb); (try clear hb2); (try clear hk); (try clear hi))))
                  (try simp only [Act.put, List.setIfInBounds_toArray, List.set_cons_zero, List.set_cons_succ])
                  go_cut [76] (fun v76 wc => ∃ (kq : Nat) (x76_16 : Bool), v76 = .bool x76_16 ∧ Aside0 (comp_Data.j1 kq a0 a1 a3 (wrap64 (a1 + a2)) t116 t119 t120 x76_16 = some (r1, r2)) ∧ Aside0 (kq ≤ kj4) ∧ Aside0 (Below w.heap.size w wc))
                  case first =>
                    have H := HC17.out
                    clear HC17
                    by_cases c19 : t121 = 0
                    · rw [if_pos c19] at H
                      have c19b0 : (t121 == 0) = true := beq_iff_eq.mpr c19
                      have c19b1 : (t121 != 0) = false := bne_eq_false_iff_eq.mpr c19
                      clear c19
                      (first | rw [c19b0] | (simp only [i64_w, i32_w]; rw [c19b0]) | skip)
                      have H' := Aside0.mk H
                      clear H
                      go_wp2
                      repeat (go_quiet (fail); try go_wp2)
                      go_meet
                      case rel => exact ⟨_, ((t120 != (wrap64 ((wrap64 (a1 + a2)) - t118)))), (by first | rfl | (simp; done) | (simp [*]; done)), H', ⟨by have := HJ4.out; first | omega | exact Nat.le_refl _⟩, ⟨by repeat (first | (with_reducible first | exact HB.out | apply below_alloc | apply pw_below_drewN | apply below_drew1) | exact HB.out)⟩⟩
                    · rw [if_neg c19] at H
                      have c19b0 : (t121 == 0) = false := beq_eq_false_iff_ne.mpr c19
                      have c19b1 : (t121 != 0) = true := bne_iff_ne.mpr c19
                      (first | rw [c19b0] | (simp only [i64_w, i32_w]; rw [c19b0]) | skip)
                      have H' := Aside0.mk H
                      clear H
                      go_wp2
                      repeat (go_quiet (fail); try go_wp2)
                      go_meet
                      case rel => exact ⟨_, (true), (by first | rfl | (simp; done) | (simp [*]; done)), H', ⟨by have := HJ4.out; first | omega | exact Nat.le_refl _⟩, ⟨by repeat (first | (with_reducible first | exact HB.out | apply below_alloc | apply pw_below_drewN | apply below_drew1) | exact HB.out)⟩⟩
                  case rest =>
                    clear HC17
                    try clear c1
                    try clear p2
                    try clear c6
                    try clear c6b0
                    try clear p6
                    try clear c7
                    try clear c7b0
                    try clear c8
                    try clear c8b0
                    try clear c9
                    try clear c10
                    try clear c10b0
                    try clear c10b1
                    try clear c11
                    try clear c11b0
                    try clear c11b1
                    try clear c12
                    try clear c12b0
                    try clear c12b1
                    try clear c14
                    try clear c14b0
                    try clear c15
                    try clear c15b0
                    try clear c19
                    try clear c19b0
                    try clear c19b1
                    try clear p2
                    try clear p6
                    obtain ⟨kq, x76_16, rfl, HA, HJ16, HB⟩ := hcut
                    cases kq with
                    | zero => exact absurd HA.out (by simp [comp_Data.j1])
                    | succ kj16 =>
                      have H := HA.out
                      clear HA
                      simp only [comp_Data.j1] at H
                      by_cases c20 : x76_16 = true
                      · subst c20
                        have H1 : (some ((⟨#[]⟩ : ByteArray), 500)) = some (r1, r2) := by rw [if_pos rfl] at H; exact H
                        clear H
                        have H := H1
                        clear H1
                        simp only [Option.some.injEq, Prod.mk.injEq] at H
                        obtain ⟨rfl, rfl⟩ := H
                        go_wp2
                        repeat (go_quiet (fail); try go_wp2)
                        go_ret2
                        exact ⟨by first | rfl | (simp [errW_none, errW_some] <;> rfl) | (simp [*, errW_none, errW_some] <;> rfl), by repeat (first | (with_reducible first | exact HB.out | apply below_alloc | apply pw_below_drewN | apply below_drew1) | exact HB.out)⟩
                      · replace c20 := Bool.eq_false_iff.mpr c20
                        subst c20
                        have H1 : (if 0 ≤ a1 then (if a1 ≤ (wrap64 (a1 + t116)) then (if (wrap64 (a1 + t116)) ≤ (a0.size : Int) then (if (a0.extract (a1 : Int).toNat ((wrap64 (a1 + t116)) : Int).toNat).size + t119.size ≤ 9223372036854775807 then (if 0 ≤ t120 then (if t120 ≤ (wrap64 (a1 + a2)) then (if (wrap64 (a1 + a2)) ≤ (a0.size : Int) then (if ((a0.extract (a1 : Int).toNat ((wrap64 (a1 + t116)) : Int).toNat) ++ t119).size + (a0.extract (t120 : Int).toNat ((wrap64 (a1 + a2)) : Int).toNat).size ≤ 9223372036854775807 then ((rdata_May.f a3 (((a0.extract (a1 : Int).toNat ((wrap64 (a1 + t116)) : Int).toNat) ++ t119) ++ (a0.extract (t120 : Int).toNat ((wrap64 (a1 + a2)) : Int).toNat))).bind fun t122 => (if t122 = true then (some (((a0.extract (a1 : Int).toNat ((wrap64 (a1 + t116)) : Int).toNat) ++ t119) ++ (a0.extract (t120 : Int).toNat ((wrap64 (a1 + a2)) : Int).toNat), 0)) else (some ((⟨#[]⟩ : ByteArray), 500)))) else (none)) else (none)) else (none)) else (none)) else (none)) else (none)) else (none)) else (none)) = some (r1, r2) := by rw [if_neg (show ¬ (false = true) by decide)] at H; exact H
                        clear H
                        have H := H1
                        clear H1
                        by_cases c21 : 0 ≤ a1
                        · rw [if_pos c21] at H
                          have c21b0 := eq_true c21
                          have c21b1 : decide (0 ≤ a1) = true := decide_eq_true c21
                          clear c21
                          by_cases c22 : a1 ≤ (wrap64 (a1 + t116))
                          · rw [if_pos c22] at H
                            have c22b0 := eq_true c22
                            have c22b1 : decide (a1 ≤ (wrap64 (a1 + t116))) = true := decide_eq_true c22
                            by_cases c23 : (wrap64 (a1 + t116)) ≤ (a0.size : Int)
                            · rw [if_pos c23] at H
                              have c23b0 := eq_true c23
                              have c23b1 : decide ((wrap64 (a1 + t116)) ≤ (a0.size : Int)) = true := decide_eq_true c23
                              by_cases c24 : (a0.extract (a1 : Int).toNat ((wrap64 (a1 + t116)) : Int).toNat).size + t119.size ≤ 9223372036854775807
                              · rw [if_pos c24] at H
                                have c24b0 := eq_true c24
                                have c24b1 : decide ((a0.extract (a1 : Int).toNat ((wrap64 (a1 + t116)) : Int).toNat).size + t119.size ≤ 9223372036854775807) = true := decide_eq_true c24
                                try have c24b2 : (9223372036854775807 < (a0.extract (a1 : Int).toNat ((wrap64 (a1 + t116)) : Int).toNat).size + t119.size) = False := eq_false (Nat.not_lt.2 c24)
                                by_cases c25 : 0 ≤ t120
                                · rw [if_pos c25] at H
                                  have c25b0 := eq_true c25
                                  have c25b1 : decide (0 ≤ t120) = true := decide_eq_true c25
                                  clear c25
                                  by_cases c26 : t120 ≤ (wrap64 (a1 + a2))
                                  · rw [if_pos c26] at H
                                    have c26b0 := eq_true c26
                                    have c26b1 : decide (t120 ≤ (wrap64 (a1 + a2))) = true := decide_eq_true c26
                                    by_cases c27 : (wrap64 (a1 + a2)) ≤ (a0.size : Int)
                                    · rw [if_pos c27] at H
                                      have c27b0 := eq_true c27
                                      have c27b1 : decide ((wrap64 (a1 + a2)) ≤ (a0.size : Int)) = true := decide_eq_true c27
                                      by_cases c28 : ((a0.extract (a1 : Int).toNat ((wrap64 (a1 + t116)) : Int).toNat) ++ t119).size + (a0.extract (t120 : Int).toNat ((wrap64 (a1 + a2)) : Int).toNat).size ≤ 9223372036854775807
                                      · rw [if_pos c28] at H
                                        have c28b0 := eq_true c28
                                        have c28b1 : decide (((a0.extract (a1 : Int).toNat ((wrap64 (a1 + t116)) : Int).toNat) ++ t119).size + (a0.extract (t120 : Int).toNat ((wrap64 (a1 + a2)) : Int).toNat).size ≤ 9223372036854775807) = true := decide_eq_true c28
                                        try have c28b2 : (9223372036854775807 < ((a0.extract (a1 : Int).toNat ((wrap64 (a1 + t116)) : Int).toNat) ++ t119).size + (a0.extract (t120 : Int).toNat ((wrap64 (a1 + a2)) : Int).toNat).size) = False := eq_false (Nat.not_lt.2 c28)
                                        try (have c28b3 := c28; simp only [ByteArray.size_append] at c28b3; replace c28b3 := eq_false (Nat.not_lt.2 c28b3))
                                        replace H := Option.bind_eq_some_iff.mp H
                                        obtain ⟨t122, A290, H⟩ := H
                                        replace H : (if t122 = true then (some (((a0.extract (a1 : Int).toNat ((wrap64 (a1 + t116)) : Int).toNat) ++ t119) ++ (a0.extract (t120 : Int).toNat ((wrap64 (a1 + a2)) : Int).toNat), 0)) else (some ((⟨#[]⟩ : ByteArray), 500))) = some (r1, r2) := H
                                        have A29 := Aside0.mk A290
                                        clear A290
                                        by_cases c30 : t122 = true
                                        · subst c30
                                          have H1 : (some (((a0.extract (a1 : Int).toNat ((wrap64 (a1 + t116)) : Int).toNat) ++ t119) ++ (a0.extract (t120 : Int).toNat ((wrap64 (a1 + a2)) : Int).toNat), 0)) = some (r1, r2) := by rw [if_pos rfl] at H; exact H
                                          clear H
                                          have H := H1
                                          clear H1
                                          simp only [Option.some.injEq, Prod.mk.injEq] at H
                                          obtain ⟨rfl, rfl⟩ := H
                                          go_wp2_with (first | (go_at_call 102; (with_reducible refine (rdata_May.calls a3 (((a0.extract (a1 : Int).toNat ((wrap64 (a1 + t116)) : Int).toNat) ++ t119) ++ (a0.extract (t120 : Int).toNat ((wrap64 (a1 + a2)) : Int).toNat)) true _ A29.out).mono ?_); rintro e w31 ⟨rfl, hb⟩; have n0_ := Aside0.mk (below_step (by repeat (first | (with_reducible first | exact HB.out | apply below_alloc | apply pw_below_drewN | apply below_drew1) | exact HB.out)) hb); clear HB; have HB := n0_; clear n0_; (try clear hb); (try clear hb2); (try clear hk); (try clear hi)))
                                          repeat (go_quiet (first | (go_at_call 102; (with_reducible refine (rdata_May.calls a3 (((a0.extract (a1 : Int).toNat ((wrap64 (a1 + t116)) : Int).toNat) ++ t119) ++ (a0.extract (t120 : Int).toNat ((wrap64 (a1 + a2)) : Int).toNat)) true _ A29.out).mono ?_); rintro e w31 ⟨rfl, hb⟩; have n0_ := Aside0.mk (below_step (by repeat (first | (with_reducible first | exact HB.out | apply below_alloc | apply pw_below_drewN | apply below_drew1) | exact HB.out)) hb); clear HB; have HB := n0_; clear n0_; (try clear hb); (try clear hb2); (try clear hk); (try clear hi))); try go_wp2_with (first | (go_at_call 102; (with_reducible refine (rdata_May.calls a3 (((a0.extract (a1 : Int).toNat ((wrap64 (a1 + t116)) : Int).toNat) ++ t119) ++ (a0.extract (t120 : Int).toNat ((wrap64 (a1 + a2)) : Int).toNat)) true _ A29.out).mono ?_); rintro e w31 ⟨rfl, hb⟩; have n0_ := Aside0.mk (below_step (by repeat (first | (with_reducible first | exact HB.out | apply below_alloc | apply pw_below_drewN | apply below_drew1) | exact HB.out)) hb); clear HB; have HB := n0_; clear n0_; (try clear hb); (try clear hb2); (try clear hk); (try clear hi))))
                                          go_ret2
                                          exact ⟨by first | rfl | (simp [errW_none, errW_some] <;> rfl) | (simp [*, errW_none, errW_some] <;> rfl), by repeat (first | (with_reducible first | exact HB.out | apply below_alloc | apply pw_below_drewN | apply below_drew1) | exact HB.out)⟩
                                        · replace c30 := Bool.eq_false_iff.mpr c30
                                          subst c30
                                          have H1 : (some ((⟨#[]⟩ : ByteArray), 500)) = some (r1, r2) := by rw [if_neg (show ¬ (false = true) by decide)] at H; exact H
                                          clear H
                                          have H := H1
                                          clear H1
                                          simp only [Option.some.injEq, Prod.mk.injEq] at H
                                          obtain ⟨rfl, rfl⟩ := H
                                          go_wp2_with (first | (go_at_call 102; (with_reducible refine (rdata_May.calls a3 (((a0.extract (a1 : Int).toNat ((wrap64 (a1 + t116)) : Int).toNat) ++ t119) ++ (a0.extract (t120 : Int).toNat ((wrap64 (a1 + a2)) : Int).toNat)) false _ A29.out).mono ?_); rintro e w32 ⟨rfl, hb⟩; have n0_ := Aside0.mk (below_step (by repeat (first | (with_reducible first | exact HB.out | apply below_alloc | apply pw_below_drewN | apply below_drew1) | exact HB.out)) hb); clear HB; have HB := n0_; clear n0_; (try clear hb); (try clear hb2); (try clear hk); (try clear hi)))
                                          repeat (go_quiet (first | (go_at_call 102; (with_reducible refine (rdata_May.calls a3 (((a0.extract (a1 : Int).toNat ((wrap64 (a1 + t116)) : Int).toNat) ++ t119) ++ (a0.extract (t120 : Int).toNat ((wrap64 (a1 + a2)) : Int).toNat)) false _ A29.out).mono ?_); rintro e w32 ⟨rfl, hb⟩; have n0_ := Aside0.mk (below_step (by repeat (first | (with_reducible first | exact HB.out | apply below_alloc | apply pw_below_drewN | apply below_drew1) | exact HB.out)) hb); clear HB; have HB := n0_; clear n0_; (try clear hb); (try clear hb2); (try clear hk); (try clear hi))); try go_wp2_with (first | (go_at_call 102; (with_reducible refine (rdata_May.calls a3 (((a0.extract (a1 : Int).toNat ((wrap64 (a1 + t116)) : Int).toNat) ++ t119) ++ (a0.extract (t120 : Int).toNat ((wrap64 (a1 + a2)) : Int).toNat)) false _ A29.out).mono ?_); rintro e w32 ⟨rfl, hb⟩; have n0_ := Aside0.mk (below_step (by repeat (first | (with_reducible first | exact HB.out | apply below_alloc | apply pw_below_drewN | apply below_drew1) | exact HB.out)) hb); clear HB; have HB := n0_; clear n0_; (try clear hb); (try clear hb2); (try clear hk); (try clear hi))))
                                          go_ret2
                                          exact ⟨by first | rfl | (simp [errW_none, errW_some] <;> rfl) | (simp [*, errW_none, errW_some] <;> rfl), by repeat (first | (with_reducible first | exact HB.out | apply below_alloc | apply pw_below_drewN | apply below_drew1) | exact HB.out)⟩
                                      · rw [if_neg c28] at H
                                        exact absurd H (by simp)
                                    · rw [if_neg c27] at H
                                      exact absurd H (by simp)
                                  · rw [if_neg c26] at H
                                    exact absurd H (by simp)
                                · rw [if_neg c25] at H
                                  exact absurd H (by simp)
                              · rw [if_neg c24] at H
                                exact absurd H (by simp)
                            · rw [if_neg c23] at H
                              exact absurd H (by simp)
                          · rw [if_neg c22] at H
                            exact absurd H (by simp)
                        · rw [if_neg c21] at H
                          exact absurd H (by simp)
              · rw [if_neg c14] at H
                have c14b0 : decide (0 < t117) = false := decide_eq_false c14
                clear c14
                replace H := Option.bind_eq_some_iff.mp H
                obtain ⟨t123, A330, H⟩ := H
                replace H : (if t123 = true then (some (a0.extract (a1 : Int).toNat ((wrap64 (a1 + a2)) : Int).toNat, 0)) else (some ((⟨#[]⟩ : ByteArray), 500))) = some (r1, r2) := H
                have A33 := Aside0.mk A330
                clear A330
                by_cases c34 : t123 = true
                · subst c34
                  have H1 : (some (a0.extract (a1 : Int).toNat ((wrap64 (a1 + a2)) : Int).toNat, 0)) = some (r1, r2) := by rw [if_pos rfl] at H; exact H
                  clear H
                  have H := H1
                  clear H1
                  simp only [Option.some.injEq, Prod.mk.injEq] at H
                  obtain ⟨rfl, rfl⟩ := H
                  go_wp2_with (first | (go_at_call 104; (with_reducible refine (comp_shape.calls kj4 a3 t116 t117 t118 _ A13.out).mono ?_); rintro e w' ⟨rfl, ⟨nd, rfl⟩⟩; (try first | exact ⟨rfl, _, World.drewN_drewN _ _ _⟩ | exact ⟨rfl, _, Eq.trans (World.drewN_drewN _ _ _) (congrArg (World.drewN _) (Nat.add_assoc _ _ _))⟩)) | (go_at_call 102; (with_reducible refine (rdata_May.calls a3 (a0.extract (a1 : Int).toNat ((wrap64 (a1 + a2)) : Int).toNat) true _ A33.out).mono ?_); rintro e w35 ⟨rfl, hb⟩; have n0_ := Aside0.mk (below_step (by repeat (first | (with_reducible first | exact HB.out | apply below_alloc | apply pw_below_drewN | apply below_drew1) | exact HB.out)) hb); clear HB; have HB := n0_; clear n0_; (try clear hb); (try clear hb2); (try clear hk); (try clear hi)))
                  repeat (go_quiet (first | (go_at_call 104; (with_reducible refine (comp_shape.calls kj4 a3 t116 t117 t118 _ A13.out).mono ?_); rintro e w' ⟨rfl, ⟨nd, rfl⟩⟩; (try first | exact ⟨rfl, _, World.drewN_drewN _ _ _⟩ | exact ⟨rfl, _, Eq.trans (World.drewN_drewN _ _ _) (congrArg (World.drewN _) (Nat.add_assoc _ _ _))⟩)) | (go_at_call 102; (with_reducible refine (rdata_May.calls a3 (a0.extract (a1 : Int).toNat ((wrap64 (a1 + a2)) : Int).toNat) true _ A33.out).mono ?_); rintro e w35 ⟨rfl, hb⟩; have n0_ := Aside0.mk (below_step (by repeat (first | (with_reducible first | exact HB.out | apply below_alloc | apply pw_below_drewN | apply below_drew1) | exact HB.out)) hb); clear HB; have HB := n0_; clear n0_; (try clear hb); (try clear hb2); (try clear hk); (try clear hi))); try go_wp2_with (first | (go_at_call 104; (with_reducible refine (comp_shape.calls kj4 a3 t116 t117 t118 _ A13.out).mono ?_); rintro e w' ⟨rfl, ⟨nd, rfl⟩⟩; (try first | exact ⟨rfl, _, World.drewN_drewN _ _ _⟩ | exact ⟨rfl, _, Eq.trans (World.drewN_drewN _ _ _) (congrArg (World.drewN _) (Nat.add_assoc _ _ _))⟩)) | (go_at_call 102; (with_reducible refine (rdata_May.calls a3 (a0.extract (a1 : Int).toNat ((wrap64 (a1 + a2)) : Int).toNat) true _ A33.out).mono ?_); rintro e w35 ⟨rfl, hb⟩; have n0_ := Aside0.mk (below_step (by repeat (first | (with_reducible first | exact HB.out | apply below_alloc | apply pw_below_drewN | apply below_drew1) | exact HB.out)) hb); clear HB; have HB := n0_; clear n0_; (try clear hb); (try clear hb2); (try clear hk); (try clear hi))))
                  go_ret2
                  exact ⟨by first | rfl | (simp [errW_none, errW_some] <;> rfl) | (simp [*, errW_none, errW_some] <;> rfl), by repeat (first | (with_reducible first | exact HB.out | apply below_alloc | apply pw_below_drewN | apply below_drew1) | exact HB.out)⟩
                · replace c34 := Bool.eq_false_iff.mpr c34
                  subst c34
                  have H1 : (some ((⟨#[]⟩ : ByteArray), 500)) = some (r1, r2) := by rw [if_neg (show ¬ (false = true) by decide)] at H; exact H
                  clear H
                  have H := H1
                  clear H1
                  simp only [Option.some.injEq, Prod.mk.injEq] at H
                  obtain ⟨rfl, rfl⟩ := H
                  go_wp2_with (first | (go_at_call 104; (with_reducible refine (comp_shape.calls kj4 a3 t116 t117 t118 _ A13.out).mono ?_); rintro e w' ⟨rfl, ⟨nd, rfl⟩⟩; (try first | exact ⟨rfl, _, World.drewN_drewN _ _ _⟩ | exact ⟨rfl, _, Eq.trans (World.drewN_drewN _ _ _) (congrArg (World.drewN _) (Nat.add_assoc _ _ _))⟩)) | (go_at_call 102; (with_reducible refine (rdata_May.calls a3 (a0.extract (a1 : Int).toNat ((wrap64 (a1 + a2)) : Int).toNat) false _ A33.out).mono ?_); rintro e w36 ⟨rfl, hb⟩; have n0_ := Aside0.mk (below_step (by repeat (first | (with_reducible first | exact HB.out | apply below_alloc | apply pw_below_drewN | apply below_drew1) | exact HB.out)) hb); clear HB; have HB := n0_; clear n0_; (try clear hb); (try clear hb2); (try clear hk); (try clear hi)))
                  repeat (go_quiet (first | (go_at_call 104; (with_reducible refine (comp_shape.calls kj4 a3 t116 t117 t118 _ A13.out).mono ?_); rintro e w' ⟨rfl, ⟨nd, rfl⟩⟩; (try first | exact ⟨rfl, _, World.drewN_drewN _ _ _⟩ | exact ⟨rfl, _, Eq.trans (World.drewN_drewN _ _ _) (congrArg (World.drewN _) (Nat.add_assoc _ _ _))⟩)) | (go_at_call 102; (with_reducible refine (rdata_May.calls a3 (a0.extract (a1 : Int).toNat ((wrap64 (a1 + a2)) : Int).toNat) false _ A33.out).mono ?_); rintro e w36 ⟨rfl, hb⟩; have n0_ := Aside0.mk (below_step (by repeat (first | (with_reducible first | exact HB.out | apply below_alloc | apply pw_below_drewN | apply below_drew1) | exact HB.out)) hb); clear HB; have HB := n0_; clear n0_; (try clear hb); (try clear hb2); (try clear hk); (try clear hi))); try go_wp2_with (first | (go_at_call 104; (with_reducible refine (comp_shape.calls kj4 a3 t116 t117 t118 _ A13.out).mono ?_); rintro e w' ⟨rfl, ⟨nd, rfl⟩⟩; (try first | exact ⟨rfl, _, World.drewN_drewN _ _ _⟩ | exact ⟨rfl, _, Eq.trans (World.drewN_drewN _ _ _) (congrArg (World.drewN _) (Nat.add_assoc _ _ _))⟩)) | (go_at_call 102; (with_reducible refine (rdata_May.calls a3 (a0.extract (a1 : Int).toNat ((wrap64 (a1 + a2)) : Int).toNat) false _ A33.out).mono ?_); rintro e w36 ⟨rfl, hb⟩; have n0_ := Aside0.mk (below_step (by repeat (first | (with_reducible first | exact HB.out | apply below_alloc | apply pw_below_drewN | apply below_drew1) | exact HB.out)) hb); clear HB; have HB := n0_; clear n0_; (try clear hb); (try clear hb2); (try clear hk); (try clear hi))))
                  go_ret2
                  exact ⟨by first | rfl | (simp [errW_none, errW_some] <;> rfl) | (simp [*, errW_none, errW_some] <;> rfl), by repeat (first | (with_reducible first | exact HB.out | apply below_alloc | apply pw_below_drewN | apply below_drew1) | exact HB.out)⟩
            · rw [if_neg c12] at H
              exact absurd H (by simp)
          · rw [if_neg c11] at H
            exact absurd H (by simp)
        · rw [if_neg c10] at H
          exact absurd H (by simp)

end Go.Proofs.Ytjklgdpffmaamaa.PCm

namespace Go.Proofs.Ytjklgdpffmaamaa.Wm
open Go.RowKit Go.PlainAid Go.Maps Go.Proofs.Ytjklgdpffmaamaa.Base Go.Proofs.Ytjklgdpffmaamaa.Oct Go.Proofs.Ytjklgdpffmaamaa.Nm
open Go.Proofs.YtjklgdpffmaamaaW.PrintWords (blk_cell blk_below blk_put blk_frozen blk_ne blk_new blk_lt blk_grown LeO)
set_option linter.unusedVariables false
/-- Where the reader stands, whether something was bad. -/
structure Rs where
  at_ : Int
  bad : Bool
def u16V (s : ByteArray) (i : Int) : Int × Int × Int := if 0 ≤ i ∧ i + 2 ≤ s.size then (be2 s i.toNat, i + 2, 0) else (0, 0, 300)
def u32V (s : ByteArray) (i : Int) : Int × Int × Int := if 0 ≤ i ∧ i + 4 ≤ s.size then (be4 s i.toNat, i + 4, 0) else (0, 0, 300)
def numV (r : Rs) (x : Int × Int × Int) : Int × Rs := if r.bad || x.2.2 != 0 then (0, ⟨r.at_, true⟩) else (x.1, ⟨x.2.1, false⟩)
structure RdAt (w : World) (g : Nat) (s : ByteArray) (r : Rs) : Prop where
  blk : w.heap[g]? = some (.cells #[.string s, .int .i64 r.at_, .bool r.bad] 120 (0, 0))
section
variable {w w1 w' : World} {g : Nat} {s : ByteArray} {r : Rs}
theorem RdAt.below (h : RdAt w g s r) (hb : Below w.heap.size w w') : RdAt w' g s r := ⟨blk_below h.blk hb⟩
theorem grown_below (hb : Below w.heap.size w w') (row : Option Nat) : w.grownBy w' row := ⟨hb.os, hb.tape, hb.output, hb.size, fun k hk _ => hb.block k hk⟩
theorem grown_set (w : World) (g i : Nat) (v : Value) : w.grownBy (w.setCell ⟨g, i, none⟩ v) (some g) := ⟨rfl, rfl, rfl, by simp [World.setCell], fun k hk h => Below.heap_setCell w _ _ k (by rintro rfl; exact h rfl)⟩
theorem grown_far {w W : World} {row : Option Nat} (h : w.grownBy W row) {p : Addr} (hp : w.heap.size ≤ p.block) (v : Value) : w.grownBy (W.setCell p v) row :=
  ⟨h.os, h.tape, h.output, by simpa [World.setCell] using h.size, fun k hk hne => (Below.heap_setCell W p v k (by omega)).trans (h.block k hk hne)⟩
theorem grown_set' {w W : World} {g : Nat} (h : w.grownBy W (some g)) (i : Nat) (v : Value) : w.grownBy (W.setCell ⟨g, i, none⟩ v) (some g) := h.trans (grown_set W g i v)
theorem grown_alloc' {w W : World} {row : Option Nat} (h : w.grownBy W row) (o : Obj) : w.grownBy (W.alloc o) row := h.trans (World.grownBy_alloc W _ _)
theorem blk_set_ne {w : World} {g : Nat} {o : Obj} {p : Addr} (h : w.heap[g]? = some o) (hne : g ≠ p.block) (v : Value) : (w.setCell p v).heap[g]? = some o := (Below.heap_setCell w p v g hne).trans h
end
/-- A question that is read. -/
def questV (k : Nat) (s : ByteArray) (r : Rs) : Option (Qn × Rs) :=
  (PCm.comp_Name.f k s r.at_).bind fun x => if r.bad || x.2.2 != 0 then some (zQ, ⟨r.at_, true⟩) else
    some (⟨x.1, (numV ⟨x.2.1, false⟩ (u16V s x.2.1)).1, (numV (numV ⟨x.2.1, false⟩ (u16V s x.2.1)).2 (u16V s (numV ⟨x.2.1, false⟩ (u16V s x.2.1)).2.at_)).1⟩,
      ⟨(numV (numV ⟨x.2.1, false⟩ (u16V s x.2.1)).2 (u16V s (numV ⟨x.2.1, false⟩ (u16V s x.2.1)).2.at_)).2.at_, (numV (numV ⟨x.2.1, false⟩ (u16V s x.2.1)).2 (u16V s (numV ⟨x.2.1, false⟩ (u16V s x.2.1)).2.at_)).2.bad || (numV ⟨x.2.1, false⟩ (u16V s x.2.1)).1 == 0⟩)
section
variable {w w1 w' : World} {g : Nat} {s : ByteArray} {r : Rs}
end
end Go.Proofs.Ytjklgdpffmaamaa.Wm

namespace Go.Proofs.Ytjklgdpffmaamaa.Wm
open Go.RowKit Go.PlainAid Go.Maps Go.Proofs.Ytjklgdpffmaamaa.Base Go.Proofs.Ytjklgdpffmaamaa.Oct Go.Proofs.Ytjklgdpffmaamaa.Nm
open Go.Proofs.YtjklgdpffmaamaaW.PrintWords (blk_cell blk_below blk_put blk_frozen blk_ne blk_new blk_lt blk_grown LeO)
set_option linter.unusedVariables false
def recN1 (s : ByteArray) (x : Qn × Rs) : Int × Rs := numV x.2 (u32V s x.2.at_)
def recN2 (s : ByteArray) (x : Qn × Rs) : Int × Rs := numV (recN1 s x).2 (u16V s (recN1 s x).2.at_)
/-- A record that is read. -/
def recV (k : Nat) (s : ByteArray) (r : Rs) : Option (Rr × Rs) :=
  (questV k s r).bind fun x => (PCm.comp_Data.f k s (recN2 s x).2.at_ (recN2 s x).1 x.1.type).bind fun y =>
    if (recN2 s x).2.bad || y.2 != 0 then some (zR, ⟨(recN2 s x).2.at_, true⟩) else some (⟨x.1.name, x.1.type, x.1.cls, (recN1 s x).1, y.1⟩, ⟨wrap64 ((recN2 s x).2.at_ + (recN2 s x).1), false⟩)
section
variable {w w1 w' : World} {g : Nat} {s : ByteArray} {r : Rs}
end
end Go.Proofs.Ytjklgdpffmaamaa.Wm

namespace Go.Proofs.Ytjklgdpffmaamaa.Wm
open Go.RowKit Go.PlainAid Go.Maps Go.Proofs.Ytjklgdpffmaamaa.Base Go.Proofs.Ytjklgdpffmaamaa.Oct Go.Proofs.Ytjklgdpffmaamaa.Nm
open Go.Proofs.YtjklgdpffmaamaaW.PrintWords (blk_cell blk_below blk_put blk_frozen blk_ne blk_new blk_lt blk_grown LeO own_nil own_ne own_other own_setCell)
set_option linter.unusedVariables false
section
variable {P : Program} {ops : Array Oper} {rest : List Oper} {o : Oper} {a : Act} {Q : Exit → Act → World → Prop}
/-- append(v, x), x an element of the cells cs, which lies in the variadic's own block: what has grown. -/
theorem app_elem {W : World} (base : Nat) (hgd : o.guard = none) (s x : Operand) (t e : TypeId) (z : Value) (size bytes : Nat)
    (ho : o.op = .call { callee := .builtin .append, args := #[s, x], argTypes := #[t, t] })
    (ht : P.underlying t = some (.slice e)) (hinfo : (P.info? e).map (fun i => (i.zero, i.size, i.bytes)) = some (some z, size, bytes)) (hz : z.cells.size = size) (hsz : 0 < size)
    {v : Value} {n : Nat} {xs : List Value} (HO : W.ownsRow base e size v n xs) (cs : Array Value) (hs : a.eval s = v) (hx : a.eval x = .slice (some ⟨W.heap.size, 0, none⟩) 1 1)
    (hc : cs.size = size) (h1 : ∀ u ∈ cs.toList, u.oneCell' = true) (hbase : base ≤ W.heap.size) (hn : n + 1 ≤ 140737488355328) (hl : (n + 1) * bytes ≤ 140737488355328)
    (h : ∀ v1 w1, w1.ownsRow base e size v1 (n + 1) (xs ++ cs.toList) → (W.alloc (.cells cs e)).grownBy w1 v.ownBlock → wpList P ops Q rest (a.put o.dst v1) w1) :
    wpList P ops Q (o :: rest) a (W.alloc (.cells cs e)) := by
  obtain ⟨i0, hi, hzz⟩ := Option.map_eq_some_iff.1 hinfo
  simp only [Prod.mk.injEq] at hzz
  obtain ⟨hz0, hz1, hz2⟩ := hzz
  refine wpList_append_own (W.alloc (.cells cs e)) hgd s x t ho base e i0 z size bytes ht hi hz0 hz1 hz2 hz hsz v n xs hs (HO.alloc _) ⟨W.heap.size, 0, none⟩ 1 1 cs.toList hx (by simp [hc])
    (World.news_of_block (cs := cs) (t := e) (fr := (0, 0)) (heap_alloc_new W _)) h1 (by simp only [maxLen]; omega) hl (by simp; omega) ?_
  intro v1 w1 hown hg _
  exact h v1 w1 hown hg
end
theorem grown_own {w W w1 : World} {g : Nat} {row : Option Nat} (h : w.grownBy W (some g)) (k : W.grownBy w1 row) (hr : ∀ b, row = some b → w.heap.size ≤ b) : w.grownBy w1 (some g) :=
  ⟨k.os.trans h.os, k.tape.trans h.tape, k.output.trans h.output, Nat.le_trans h.size k.size, fun i hi hne => (k.block i (Nat.lt_of_lt_of_le hi h.size) (fun e => by have := hr i e.symm; omega)).trans (h.block i hi hne)⟩

theorem info_Q : (Try.prog.info? 40).map (fun i => (i.zero, i.size, i.bytes)) = some (some (.agg #[.string ⟨#[]⟩, .int .i64 0, .int .i64 0]), 3, 32) := by kernel_rfl
abbrev cellQ (q : Qn) : Array Value := #[.string q.name, .int .i64 q.type, .int .i64 q.cls]
def cellsQ : List Qn → List Value
  | [] => []
  | q :: qs => (cellQ q).toList ++ cellsQ qs
theorem cellsQ_app (a b : List Qn) : cellsQ (a ++ b) = cellsQ a ++ cellsQ b := by
  induction a with
  | nil => rfl
  | cons p a ih => simp [cellsQ, ih]
def loopQ (k : Nat) (s : ByteArray) : Nat → Rs → List Qn → Option (List Qn × Rs)
  | 0, r, acc => some (acc, r)
  | n + 1, r, acc => if r.bad then some (acc, r) else (questV k s r).bind fun x => loopQ k s n x.2 (acc ++ [x.1])
/-- So many that are read. -/
def listQ (k : Nat) (s : ByteArray) (n : Nat) (r : Rs) : Option (List Qn × Rs) := loopQ k s n ⟨r.at_, r.bad || decide (64 < n)⟩ []
section
variable {w : World} {g : Nat} {s : ByteArray} {r : Rs}
end

theorem info_R : (Try.prog.info? 53).map (fun i => (i.zero, i.size, i.bytes)) = some (some (.agg #[.string ⟨#[]⟩, .int .i64 0, .int .i64 0, .int .i64 0, .string ⟨#[]⟩]), 5, 56) := by kernel_rfl
abbrev cellR (q : Rr) : Array Value := #[.string q.name, .int .i64 q.type, .int .i64 q.cls, .int .i64 q.ttl, .string q.data]
def cellsR : List Rr → List Value
  | [] => []
  | q :: qs => (cellR q).toList ++ cellsR qs
theorem cellsR_app (a b : List Rr) : cellsR (a ++ b) = cellsR a ++ cellsR b := by
  induction a with
  | nil => rfl
  | cons p a ih => simp [cellsR, ih]
def loopR (k : Nat) (s : ByteArray) : Nat → Rs → List Rr → Option (List Rr × Rs)
  | 0, r, acc => some (acc, r)
  | n + 1, r, acc => if r.bad then some (acc, r) else (recV k s r).bind fun x => loopR k s n x.2 (acc ++ [x.1])
/-- So many that are read. -/
def listR (k : Nat) (s : ByteArray) (n : Nat) (r : Rs) : Option (List Rr × Rs) := loopR k s n ⟨r.at_, r.bad || decide (64 < n)⟩ []
section
variable {w : World} {g : Nat} {s : ByteArray} {r : Rs}
end
end Go.Proofs.Ytjklgdpffmaamaa.Wm

namespace Go.Proofs.Ytjklgdpffmaamaa.Wm
open Go.RowKit Go.PlainAid Go.Maps Go.Proofs.Ytjklgdpffmaamaa.Base Go.Proofs.Ytjklgdpffmaamaa.Oct Go.Proofs.Ytjklgdpffmaamaa.Nm
open Go.Proofs.YtjklgdpffmaamaaW.PrintWords (blk_cell blk_below blk_put blk_frozen blk_ne blk_new blk_lt blk_grown LeO own_nil own_ne own_other own_setCell)
set_option linter.unusedVariables false
structure Got where
  h : Hd.Head
  qs : List Qn
  an : List Rr
  ns : List Rr
  ar : List Rr
  e : Int
def got0 (e : Int) : Got := ⟨Hd.head0, [], [], [], [], e⟩
/-- What is read. -/
def getV (k : Nat) (s : ByteArray) : Option Got :=
  if 4096 < s.size then some (got0 701) else if s.size < 12 then some (got0 700) else
    (listQ k s (be2 s 4).toNat ⟨12, false⟩).bind fun q => (listR k s (be2 s 6).toNat q.2).bind fun a => (listR k s (be2 s 8).toNat a.2).bind fun b => (listR k s (be2 s 10).toNat b.2).bind fun c =>
      if c.2.bad || c.2.at_ != (s.size : Int) then some (got0 700) else some ⟨Hd.getH s, q.1, a.1, b.1, c.1, 0⟩
abbrev mz : Array Value := #[.int .i64 0, .bool false, .int .i64 0, .bool false, .bool false, .bool false, .bool false, .int .i64 0, .int .i64 0, .slice none 0 0, .slice none 0 0, .slice none 0 0, .slice none 0 0]
/-- What the answer is, and where its rows lie. -/
def GetPost (s : ByteArray) (w : World) (r : Got) (e : Ending) (w' : World) : Prop :=
  ∃ vq va vn vr, e = .returned (.tuple #[.agg #[.int .i64 r.h.id, .bool r.h.qr, .int .i64 r.h.op, .bool r.h.aa, .bool r.h.tc, .bool r.h.rd, .bool r.h.ra, .int .i64 r.h.z, .int .i64 r.h.rc, vq, va, vn, vr], .int .i64 r.e]) ∧
    w'.ownsRow w.heap.size 40 3 vq r.qs.length (cellsQ r.qs) ∧ w'.ownsRow w.heap.size 53 5 va r.an.length (cellsR r.an) ∧ w'.ownsRow w.heap.size 53 5 vn r.ns.length (cellsR r.ns) ∧ w'.ownsRow w.heap.size 53 5 vr r.ar.length (cellsR r.ar) ∧
    (∀ k, va.ownBlock = some k → some k ≠ vn.ownBlock ∧ some k ≠ vr.ownBlock) ∧ (∀ k, vn.ownBlock = some k → some k ≠ va.ownBlock ∧ some k ≠ vr.ownBlock) ∧ (∀ k, vr.ownBlock = some k → some k ≠ va.ownBlock ∧ some k ≠ vn.ownBlock) ∧ Below w.heap.size w w'
theorem post0 (s : ByteArray) (w w' : World) (e : Int) (hb : Below w.heap.size w w') : GetPost s w (got0 e) (.returned (.tuple #[.agg mz, .int .i64 e])) w' :=
  ⟨_, _, _, _, rfl, own_nil _ _ _ _, own_nil _ _ _ _, own_nil _ _ _ _, own_nil _ _ _ _, fun k h => by simp [Value.ownBlock] at h, fun k h => by simp [Value.ownBlock] at h, fun k h => by simp [Value.ownBlock] at h, hb⟩
/-- Values written one behind the other into a block. -/
def putAll (w : World) (g : Nat) : Nat → List Value → World
  | _, [] => w
  | i, v :: vs => putAll (w.setCell ⟨g, i, none⟩ v) g (i + 1) vs
def setAll (cs : Array Value) : Nat → List Value → Array Value
  | _, [] => cs
  | i, v :: vs => setAll (cs.setIfInBounds i v) (i + 1) vs
theorem putAll_blk {w : World} {g : Nat} {t : TypeId} {cs : Array Value} (i : Nat) (vs : List Value) (cs' : Array Value) (h : w.heap[g]? = some (.cells cs t (0, 0))) (e : setAll cs i vs = cs' := by rfl) : (putAll w g i vs).heap[g]? = some (.cells cs' t (0, 0)) := by
  subst e
  induction vs generalizing w i cs with
  | nil => exact h
  | cons v vs ih => exact ih (i + 1) (blk_put h i v rfl)
theorem putAll_own {w : World} {g b : Nat} {e : TypeId} {size n : Nat} {v : Value} {xs : List Value} (i : Nat) (vs : List Value) (h : w.ownsRow b e size v n xs) (hne : some g ≠ v.ownBlock) : (putAll w g i vs).ownsRow b e size v n xs := by
  induction vs generalizing w i with
  | nil => exact h
  | cons u vs ih => exact ih (i + 1) (own_setCell (p := ⟨g, i, none⟩) h hne u)
theorem putAll_grown {w0 w : World} {g : Nat} {row : Option Nat} (i : Nat) (vs : List Value) (h : w0.grownBy w row) (hg : w0.heap.size ≤ g) : w0.grownBy (putAll w g i vs) row := by
  induction vs generalizing w i with
  | nil => exact h
  | cons u vs ih => exact ih (i + 1) (grown_far (p := ⟨g, i, none⟩) h hg u)
theorem own_lower {w : World} {b b' : Nat} {e : TypeId} {size n : Nat} {v : Value} {xs : List Value} (h : w.ownsRow b e size v n xs) (hb : b' ≤ b) : w.ownsRow b' e size v n xs := by
  refine ⟨h.1, ?_⟩
  rcases h.2 with h2 | ⟨k, cap, cur, rfl, hg, r⟩
  · exact .inl h2
  · exact .inr ⟨k, cap, cur, rfl, Nat.le_trans hb hg, r⟩
theorem own_lt {w : World} {b : Nat} {e : TypeId} {size n : Nat} {v : Value} {xs : List Value} (h : w.ownsRow b e size v n xs) (k : Nat) (hk : v.ownBlock = some k) : k < w.heap.size := by
  obtain ⟨cs, hb⟩ := Go.Proofs.YtjklgdpffmaamaaW.PrintWords.own_typed h k hk
  exact blk_lt hb
end Go.Proofs.Ytjklgdpffmaamaa.Wm

namespace Go.Proofs.Ytjklgdpffmaamaa.Pad
open Go.RowKit Go.PlainAid Go.Proofs.Ytjklgdpffmaamaa.Base Go.Proofs.Ytjklgdpffmaamaa.Oct Go.Proofs.Ytjklgdpffmaamaa.Wm Go.Proofs.Ytjklgdpffmaamaa.OptH
open Go.Proofs.YtjklgdpffmaamaaW.PrintWords (blk_cell blk_below blk_put blk_frozen blk_ne blk_new blk_lt blk_grown blk_alloc own_nil add_field)
set_option linter.unusedVariables false
set_option linter.unusedSimpArgs false
def optR (d : ByteArray) : Rr := ⟨⟨#[0]⟩, 41, 1232, 0, d⟩
abbrev withM (m : MsgV) (d : ByteArray) (A : Option Addr) (c : Nat) : MsgV := ⟨m.h, m.Aq, m.cq, m.qs, m.Aa, m.ca, m.an, m.An, m.cn, m.ns, A, c, m.ar ++ [optR d]⟩
theorem cellsR_length (rs : List Rr) : (cellsR rs).length = rs.length * 5 := by
  induction rs with
  | nil => rfl
  | cons r rs ih => simp [cellsR, ih]; omega
theorem cellsR_at (rs : List Rr) : ∀ (j i : Nat), i < 5 → (cellsR rs)[j * 5 + i]? = (rs[j]?).bind fun r => (cellR r).toList[i]? := by
  induction rs with
  | nil => intro j i hi; simp [cellsR]
  | cons r rs ih =>
    intro j i hi
    cases j with
    | zero => rw [Nat.zero_mul, Nat.zero_add, cellsR, List.getElem?_append_left (by simpa using hi)]; rfl
    | succ j =>
      rw [cellsR, List.getElem?_append_right (by simp; omega)]
      have e : (j + 1) * 5 + i - (cellR r).toList.length = j * 5 + i := by simp; omega
      rw [e, ih j i hi]
      rfl
theorem row_news {w : World} {ad : Addr} {rs : List Rr} (h : RCells w (some ad) rs) : ∀ t u, (cellsR rs)[t]? = some u → w.cell? (ad.add t) = some u := by
  intro t u hu
  obtain ⟨j, i, rfl, hi⟩ : ∃ j i, t = j * 5 + i ∧ i < 5 := ⟨t / 5, t % 5, by omega, by omega⟩
  rw [cellsR_at rs j i hi] at hu
  rcases h with h0 | ⟨ad', e, h⟩
  · have : rs = [] := by simpa using h0
    subst this
    simp at hu
  · injection e with e
    subst e
    by_cases hj : j < rs.length
    · obtain ⟨c0, c1, c2, c3, c4⟩ := h j hj
      rw [List.getElem?_eq_getElem hj] at hu
      have eg : rs.getD j zR = rs[j] := by rw [List.getD_eq_getElem?_getD, List.getElem?_eq_getElem hj]; rfl
      rw [eg] at c0 c1 c2 c3 c4
      match i, hi with
      | 0, _ => rw [Nat.add_zero, c0]; exact hu
      | 1, _ => rw [add_field _ _ 1 (by omega), c1]; exact hu
      | 2, _ => rw [add_field _ _ 2 (by omega), c2]; exact hu
      | 3, _ => rw [add_field _ _ 3 (by omega), c3]; exact hu
      | 4, _ => rw [add_field _ _ 4 (by omega), c4]; exact hu
    · rw [List.getElem?_eq_none (by omega)] at hu
      cases hu
theorem cellsR_one (rs : List Rr) : ∀ u ∈ cellsR rs, u.oneCell' = true := by
  induction rs with
  | nil => intro u hu; cases hu
  | cons r rs ih =>
    intro u hu
    rw [cellsR, List.mem_append] at hu
    rcases hu with hu | hu
    · simp [cellR] at hu
      rcases hu with rfl | rfl | rfl | rfl | rfl <;> rfl
    · exact ih u hu
theorem own_rcells {w : World} {base : Nat} {A : Option Addr} {n c : Nat} {rs : List Rr} (h : w.ownsRow base 53 5 (.slice A n c) rs.length (cellsR rs)) : RCells w A rs := by
  rcases h.2 with ⟨_, h0⟩ | ⟨g, cap, cur, hv, _⟩
  · exact .inl h0
  · injection hv with hA _ _
    subst hA
    refine .inr ⟨_, rfl, fun j hj => ?_⟩
    have eg : rs.getD j zR = rs[j] := by rw [List.getD_eq_getElem?_getD, List.getElem?_eq_getElem hj]; rfl
    rw [eg]
    have hc : ∀ i u, i < 5 → (cellR rs[j]).toList[i]? = some u → w.cell? ((⟨g, 0, none⟩ : Addr).add (j * 5 + i)) = some u := fun i u hi hu =>
      h.cells (g := g) rfl (j * 5 + i) u (by rw [cellsR_at rs j i hi, List.getElem?_eq_getElem hj]; exact hu)
    exact ⟨hc 0 _ (by omega) rfl, by rw [← add_field _ _ 1 (by omega)]; exact hc 1 _ (by omega) rfl, by rw [← add_field _ _ 2 (by omega)]; exact hc 2 _ (by omega) rfl, by rw [← add_field _ _ 3 (by omega)]; exact hc 3 _ (by omega) rfl, by rw [← add_field _ _ 4 (by omega)]; exact hc 4 _ (by omega) rfl⟩
/-- append(nil, rs...). -/
theorem app_nil {w : World} {A : Option Addr} {c : Nat} {rs : List Rr} (h : RCells w A rs) (hl : rs.length ≤ 64) : ∃ v1 w1, (Builtin.append_ #[25, 25] 25 #[.slice none 0 0, .slice A rs.length c]).run Try.prog w = .ok v1 w1 ∧ w1.ownsRow w.heap.size 53 5 v1 rs.length (cellsR rs) ∧ w.grownBy w1 none := by
  obtain ⟨i0, hi, hz0, hz1, hz2⟩ := info_parts info_R
  cases A with
  | some ad =>
    obtain ⟨v1, w1, e, ho, hg, _⟩ := run_append_own (P := Try.prog) (w := w) w.heap.size 25 25 53 i0 _ 5 56 Try.underlying25 hi hz0 hz1 hz2 rfl (by decide) (.slice none 0 0) 0 [] (own_nil _ _ _ _) ad rs.length c (cellsR rs) (cellsR_length rs) (row_news h) (cellsR_one rs) (by simp only [maxLen]; omega) (by omega) (Nat.le_refl _)
    exact ⟨v1, w1, e, by simpa using ho, hg⟩
  | none =>
    have h0 : rs = [] := by
      rcases h with h0 | ⟨ad, e, _⟩
      · simpa using h0
      · cases e
    subst h0
    refine ⟨.slice none 0 0, w, ?_, own_nil _ _ _ _, ?_⟩
    · simp [Builtin.append_, run_underlying Try.underlying25, sizeOf, typeInfo, zeroValue, hi, hz0, Builtin.lenOf, Builtin.firstCells]
    · exact ⟨rfl, rfl, rfl, Nat.le_refl _, fun _ _ _ => rfl⟩
section
variable {P : Program} {ops : Array Oper} {o : Oper} {a : Act} {Q : Exit → Act → World → Prop} {K : Act → World → Prop}
/-- A builtin append as one step of a region, by its run. -/
theorem step_run {W w1 : World} (hw : Region.wanted o (yielded ops a.tmps) = true) (s x : Operand) (t : TypeId) (v u v1 : Value)
    (ho : o.op = .call { callee := .builtin .append, args := #[s, x], argTypes := #[t, t] }) (hs : a.eval s = v) (hx : a.eval x = u)
    (hr : (Builtin.append_ #[t, t] o.type #[v, u]).run P W = .ok v1 w1) (h : K (a.put o.dst v1) w1) :
    if Region.wanted o (yielded ops a.tmps) = true then Oper.wp P o a W K Q else K (a.put o.dst undef) W := by
  rw [if_pos hw]
  unfold Oper.wp execOp
  simp only [ho, resolve, invoke, builtin, Sem.run_bind, Sem.run_pure, Result.andThen_ok, List.map_toArray, List.map_cons, List.map_nil, hs, hx, hr]
  exact h
theorem putAll_below {b g : Nat} {w0 w : World} (i : Nat) (vs : List Value) (h : Below b w0 w) (hg : b ≤ g) : Below b w0 (putAll w g i vs) := by
  induction vs generalizing w i with
  | nil => exact h
  | cons u vs ih => exact ih (i + 1) (h.setCell (p := ⟨g, i, none⟩) hg u)
theorem own_ne {W : World} {base e size n : Nat} {v : Value} {xs : List Value} {b T : Nat} {cs : Array Value} {fr : Nat × Nat} (h : W.ownsRow base e size v n xs) (hb : W.heap[b]? = some (.cells cs T fr)) (hT : T ≠ e) : some b ≠ v.ownBlock := by
  intro hk
  obtain ⟨cs', hb'⟩ := Go.Proofs.YtjklgdpffmaamaaW.PrintWords.own_typed h b hk.symm
  rw [hb] at hb'
  injection hb' with hb'
  injection hb' with _ hT' _
  exact hT hT'
theorem step_app1 {w W : World} {A : Option Addr} {c : Nat} {rs : List Rr} (hw : Region.wanted o (yielded ops a.tmps) = true) (s x : Operand)
    (ho : o.op = .call { callee := .builtin .append, args := #[s, x], argTypes := #[25, 25] }) (ht : o.type = 25) (hs : a.eval s = .slice none 0 0) (hx : a.eval x = .slice A rs.length c)
    (hr : RCells w A rs) (hl : rs.length ≤ 64) (hB : Below w.heap.size w W)
    (h : ∀ v1 w1, w1.ownsRow w.heap.size 53 5 v1 rs.length (cellsR rs) → W.grownBy w1 none → Below w.heap.size w w1 → (∀ k, v1.ownBlock = some k → W.heap.size ≤ k) → K (a.put o.dst v1) w1) :
    if Region.wanted o (yielded ops a.tmps) = true then Oper.wp Try.prog o a W K Q else K (a.put o.dst undef) W := by
  obtain ⟨v1, w1, e, ho1, hg⟩ := app_nil (c := c) (hr.below hB) hl
  rw [← ht] at e
  exact step_run hw s x _ _ _ v1 ho hs hx (by rw [ht] at e ⊢; exact e) (h v1 w1 (own_lower ho1 hB.size) hg (hB.grown hg hB.size (fun k hk => by cases hk)) (Sl.own_base ho1))
theorem step_app2 {w W : World} {v1 : Value} {rs : List Rr} {r : Rr} {g c : Nat} (hw : Region.wanted o (yielded ops a.tmps) = true) (s x : Operand)
    (ho : o.op = .call { callee := .builtin .append, args := #[s, x], argTypes := #[25, 25] }) (ht : o.type = 25) (hs : a.eval s = v1) (hx : a.eval x = .slice (some ⟨g, 0, none⟩) 1 c)
    (hown : W.ownsRow w.heap.size 53 5 v1 rs.length (cellsR rs)) (hg : W.heap[g]? = some (.cells (cellR r) 53 (0, 0))) (hl : rs.length ≤ 64) (hB : Below w.heap.size w W)
    (h : ∀ v2 w2, w2.ownsRow w.heap.size 53 5 v2 (rs ++ [r]).length (cellsR (rs ++ [r])) → W.grownBy w2 v1.ownBlock → Below w.heap.size w w2 → K (a.put o.dst v2) w2) :
    if Region.wanted o (yielded ops a.tmps) = true then Oper.wp Try.prog o a W K Q else K (a.put o.dst undef) W := by
  obtain ⟨i0, hi, hz0, hz1, hz2⟩ := info_parts info_R
  obtain ⟨v2, w2, e, ho2, hg2, _⟩ := run_append_own (P := Try.prog) (w := W) w.heap.size 25 25 53 i0 _ 5 56 Try.underlying25 hi hz0 hz1 hz2 rfl (by decide) v1 rs.length (cellsR rs) hown ⟨g, 0, none⟩ 1 c (cellR r).toList rfl (World.news_of_block hg) (by intro u hu; simp [cellR] at hu; rcases hu with rfl | rfl | rfl | rfl | rfl <;> rfl) (by simp only [maxLen]; omega) (by omega) hB.size
  refine step_run hw s x _ _ _ v2 ho hs hx (by rw [ht]; exact e) (h v2 w2 ?_ hg2 (hB.grown hg2 hB.size (Sl.own_base hown)))
  rw [cellsR_app, List.length_append]
  simpa [cellsR] using ho2
end
theorem alloc3 (w : World) (X Y Z : Array Value) (tX tY tZ : Nat) : (((w.alloc (.cells X tX)).alloc (.cells Y tY)).alloc (.cells Z tZ)).heap[w.heap.size]? = some (.cells X tX (0, 0)) ∧ (((w.alloc (.cells X tX)).alloc (.cells Y tY)).alloc (.cells Z tZ)).heap[w.heap.size + 1]? = some (.cells Y tY (0, 0)) ∧ (((w.alloc (.cells X tX)).alloc (.cells Y tY)).alloc (.cells Z tZ)).heap[w.heap.size + 1 + 1]? = some (.cells Z tZ (0, 0)) ∧ Below w.heap.size w (((w.alloc (.cells X tX)).alloc (.cells Y tY)).alloc (.cells Z tZ)) ∧ (((w.alloc (.cells X tX)).alloc (.cells Y tY)).alloc (.cells Z tZ)).heap.size = w.heap.size + 1 + 1 + 1 := by
  refine ⟨blk_alloc (blk_alloc (blk_new w _) _) _, ?_, ?_, (((Below.refl _ _).alloc (Nat.le_refl _) _).alloc (by simp) _).alloc (by simp; omega) _, by simp⟩
  · have := blk_new (w.alloc (.cells X tX)) (.cells Y tY)
    rw [asz] at this
    exact blk_alloc this _
  · have := blk_new ((w.alloc (.cells X tX)).alloc (.cells Y tY)) (.cells Z tZ)
    rw [asz, asz] at this
    exact this
abbrev msg0 : Array Value := #[.int .i64 0, .bool false, .int .i64 0, .bool false, .bool false, .bool false, .bool false, .int .i64 0, .int .i64 0, .slice none 0 0, .slice none 0 0, .slice none 0 0, .slice none 0 0]
theorem own_cap {w : World} {b : Nat} {e : TypeId} {size n c : Nat} {A : Option Addr} {xs : List Value} (h : w.ownsRow b e size (.slice A n c) n xs) : n ≤ c := by
  rcases h.2 with ⟨e1, h0⟩ | ⟨g, cap, cur, hv, _, _, r, _⟩
  · omega
  · injection hv with _ _ hc; omega
theorem with_lies {m : MsgV} {d : ByteArray} {w w' : World} {A : Option Addr} {c : Nat} (hm : m.Lies w) (hb : Below w.heap.size w w') (ho : w'.ownsRow w.heap.size 53 5 (.slice A (m.ar ++ [optR d]).length c) (m.ar ++ [optR d]).length (cellsR (m.ar ++ [optR d]))) (hd : d.size ≤ 65100) : (withM m d A c).Lies w' := by
  have h := hm.below hb
  refine ⟨h.q, h.a, h.n, own_rcells ho, h.lq, h.la, h.ln, own_cap ho, h.sa, h.sn, fun r hr => ?_⟩
  rcases List.mem_append.1 hr with hr | hr
  · exact h.sr r hr
  · rw [List.mem_singleton.1 hr]
    show d.size ≤ _
    omega
set_option maxHeartbeats 4000000 in
set_option maxRecDepth 100000 in
theorem withc (m : MsgV) (room : Int) (d : ByteArray) (hroom : room = -1 ∧ d = ⟨#[]⟩ ∨ ∃ k : Nat, room = (k : Int) ∧ k ≤ 60000 ∧ d = p16 12 ++ p16 (k : Int) ++ zeros k) (w : World) (hm : m.Lies w) (ha : m.ar.length ≤ 63) :
    Calls Try.prog 78 #[.agg m.cells, .int .i64 room] w fun e w' => ∃ A c, e = .returned (.agg (withM m d A c).cells) ∧ (withM m d A c).Lies w' ∧ Below w.heap.size w w' := by
  have HR := Lib.hid hroom
  clear hroom
  go_enter Try.func78, Try.ntmps78
  go_upto_if 10 with (fail)
  obtain ⟨bM, bZ, bO, BW, sW⟩ := alloc3 w m.cells msg0 #[.int .i64 1232, .int .i64 0, .int .i64 0, .bool false, .int .i64 0, .slice none 0 0] 27 27 49
  have HM := Lib.hid hm
  clear hm
  generalize (((w.alloc (.cells m.cells 27)).alloc (.cells msg0 27)).alloc (.cells #[.int .i64 1232, .int .i64 0, .int .i64 0, .bool false, .int .i64 0, .slice none 0 0] 49)) = W at *
  obtain ⟨go, hgo⟩ : ∃ go, go = w.heap.size + 1 + 1 := ⟨_, rfl⟩
  obtain ⟨gz, hgz⟩ : ∃ gz, gz = w.heap.size + 1 := ⟨_, rfl⟩
  have hge : w.heap.size ≤ go ∧ w.heap.size ≤ gz ∧ w.heap.size ≠ gz ∧ w.heap.size ≠ go ∧ gz ≠ go := by omega
  rw [← hgo] at bO ⊢
  rw [← hgz] at bZ ⊢
  have HGE := Lib.hid hge
  have SW := Lib.hid sW
  clear hgo hgz hge sW
  go_cut [10] (fun v10 wc => ∃ vs : Value, wc.heap[go]? = some (.cells #[.int .i64 1232, .int .i64 0, .int .i64 0, .bool false, .int .i64 0, vs] 49 (0, 0)) ∧ wc.heap[w.heap.size]? = some (.cells m.cells 27 (0, 0)) ∧ wc.heap[gz]? = some (.cells msg0 27 (0, 0)) ∧ Below w.heap.size w wc ∧ (vs = .slice none 0 0 ∧ d = ⟨#[]⟩ ∨ ∃ g z, vs = .slice (some ⟨g, 0, none⟩) 1 1 ∧ wc.heap[g]? = some (.cells #[.int .i64 12, .string z] 55 (0, 0)) ∧ z.size ≤ 65000 ∧ d = p16 12 ++ p16 (z.size : Int) ++ z))
  case first =>
    rcases HR.out with ⟨rfl, rfl⟩ | ⟨k, rfl, hk, hd⟩
    · go_wp2
      go_meet
      case rel => exact ⟨_, bO, bM, bZ, BW, .inl ⟨rfl, by first | rfl | trivial⟩⟩
    · have q : decide ((0 : Int) ≤ (k : Int)) = true := by simp
      have km := make_zeros k (by omega) W
      have kz := conv_zeros k W
      have bO2 : ((W.alloc (.cells (madeCells #[.int .u8 0] k) 5)).alloc (.cells #[.int .i64 12, .string (zeros k)] 55)).heap[go]? = _ := blk_alloc (blk_alloc bO _) _
      have o5 : ((W.alloc (.cells (madeCells #[.int .u8 0] k) 5)).alloc (.cells #[.int .i64 12, .string (zeros k)] 55)).cell? ⟨go, 5, none⟩ = some (.slice none 0 0) := (blk_cell bO2 5).trans rfl
      have f5 := blk_frozen bO2 5
      have hlt := blk_lt bO
      go_wp2_with fail
      go_meet
      case rel =>
        obtain ⟨e1, e2, e3, e4, e5⟩ := HGE.out
        have a0 := blk_put bO 5 (.slice (some ⟨W.heap.size + 1, 0, none⟩) 1 1) rfl
        have a1 := blk_set_ne (p := ⟨go, 5, none⟩) bM e4 (.slice (some ⟨W.heap.size + 1, 0, none⟩) 1 1)
        have a2 := blk_set_ne (p := ⟨go, 5, none⟩) bZ e5 (.slice (some ⟨W.heap.size + 1, 0, none⟩) 1 1)
        have B1 := BW.setCell (p := ⟨go, 5, none⟩) e1 (.slice (some ⟨W.heap.size + 1, 0, none⟩) 1 1)
        have s1 : (W.setCell ⟨go, 5, none⟩ (.slice (some ⟨W.heap.size + 1, 0, none⟩) 1 1)).heap.size = W.heap.size := by simp [World.setCell]
        generalize W.setCell ⟨go, 5, none⟩ (.slice (some ⟨W.heap.size + 1, 0, none⟩) 1 1) = W1 at *
        rw [← s1] at a0
        refine ⟨.slice (some ⟨W1.heap.size + 1, 0, none⟩) 1 1, ?_, blk_alloc (blk_alloc a1 _) _, blk_alloc (blk_alloc a2 _) _, (B1.alloc B1.size _).alloc (by rw [asz]; have := B1.size; omega) _, .inr ⟨W1.heap.size + 1, zeros k, rfl, ?_, by rw [zeros_size]; omega, by rw [zeros_size]; exact hd⟩⟩
        · have := blk_alloc (blk_alloc a0 (.cells (madeCells #[.int .u8 0] k) 5)) (.cells #[.int .i64 12, .string (zeros k)] 55)
          simpa using this
        · have := blk_new (W1.alloc (.cells (madeCells #[.int .u8 0] k) 5)) (.cells #[.int .i64 12, .string (zeros k)] 55)
          rw [asz] at this
          exact this
  case rest =>
    clear bM bZ bO BW
    obtain ⟨vs, bO, bM, bZ, BW, hvs⟩ := hcut
    have kp : Calls Try.prog 101 #[.agg #[.int .i64 1232, .int .i64 0, .int .i64 0, .bool false, .int .i64 0, vs]] wc fun e w' => e = .returned (.tuple #[optV d, .int .i64 0]) ∧ Below wc.heap.size wc w' := by
      rcases hvs with ⟨rfl, rfl⟩ | ⟨g, z, rfl, hg, hz, rfl⟩
      · exact put0 wc
      · exact put1 z hz g 1 wc (Nat.le_refl _) hg
    have hd : d.size ≤ 65100 := by
      rcases hvs with ⟨_, rfl⟩ | ⟨g, z, _, _, hz, rfl⟩
      · decide
      · simp only [ByteArray.size_append, p16_size]; omega
    clear hvs
    have c0 : wc.cell? ⟨go, 0, none⟩ = some (.int .i64 1232) := (blk_cell bO 0).trans rfl
    have c1 : wc.cell? ⟨go, 1, none⟩ = some (.int .i64 0) := (blk_cell bO 1).trans rfl
    have c2 : wc.cell? ⟨go, 2, none⟩ = some (.int .i64 0) := (blk_cell bO 2).trans rfl
    have c3 : wc.cell? ⟨go, 3, none⟩ = some (.bool false) := (blk_cell bO 3).trans rfl
    have c4 : wc.cell? ⟨go, 4, none⟩ = some (.int .i64 0) := (blk_cell bO 4).trans rfl
    have c5 : wc.cell? ⟨go, 5, none⟩ = some vs := (blk_cell bO 5).trans rfl
    go_wp2_with fail
    refine kp.mono ?_
    rintro e w2 ⟨rfl, hb⟩
    clear c0 c1 c2 c3 c4 c5 kp
    have bM2 := blk_alloc (blk_below bM hb) (.cells #[.string ⟨#[0]⟩, .int .i64 41, .int .i64 1232, .int .i64 0, .string d] 53)
    have bZ2 := blk_alloc (blk_below bZ hb) (.cells #[.string ⟨#[0]⟩, .int .i64 41, .int .i64 1232, .int .i64 0, .string d] 53)
    have bR := blk_new w2 (.cells #[.string ⟨#[0]⟩, .int .i64 41, .int .i64 1232, .int .i64 0, .string d] 53)
    have B0 := BW.trans (hb.mono BW.size)
    have B2 := B0.alloc B0.size (.cells #[.string ⟨#[0]⟩, .int .i64 41, .int .i64 1232, .int .i64 0, .string d] 53)
    clear bM bZ bO hb BW
    go_upto_region 5 with (fail)
    generalize hw3 : w2.alloc (.cells #[.string ⟨#[0]⟩, .int .i64 41, .int .i64 1232, .int .i64 0, .string d] 53) = w3 at *
    obtain ⟨gr, hgr⟩ : ∃ gr, gr = w2.heap.size := ⟨_, rfl⟩
    rw [← hgr] at bR ⊢
    clear hw3 hgr B0
    have m12 : w3.drew.cell? ⟨w.heap.size, 12, none⟩ = some (.slice m.Ar m.ar.length m.cr) := (blk_cell bM2 12).trans rfl
    have r0 : w3.drew.cell? ⟨gr, 0, none⟩ = some (.string ⟨#[0]⟩) := (blk_cell bR 0).trans rfl
    have r1 : w3.drew.cell? ⟨gr, 1, none⟩ = some (.int .i64 41) := (blk_cell bR 1).trans rfl
    have r2 : w3.drew.cell? ⟨gr, 2, none⟩ = some (.int .i64 1232) := (blk_cell bR 2).trans rfl
    have r3 : w3.drew.cell? ⟨gr, 3, none⟩ = some (.int .i64 0) := (blk_cell bR 3).trans rfl
    have r4 : w3.drew.cell? ⟨gr, 4, none⟩ = some (.string d) := (blk_cell bR 4).trans rfl
    have q0 : w3.cell? ⟨gr, 0, none⟩ = some (.string ⟨#[0]⟩) := (blk_cell bR 0).trans rfl
    have q1 : w3.cell? ⟨gr, 1, none⟩ = some (.int .i64 41) := (blk_cell bR 1).trans rfl
    have q2 : w3.cell? ⟨gr, 2, none⟩ = some (.int .i64 1232) := (blk_cell bR 2).trans rfl
    have q3 : w3.cell? ⟨gr, 3, none⟩ = some (.int .i64 0) := (blk_cell bR 3).trans rfl
    have q4 : w3.cell? ⟨gr, 4, none⟩ = some (.string d) := (blk_cell bR 4).trans rfl
    have q12 : w3.cell? ⟨w.heap.size, 12, none⟩ = some (.slice m.Ar m.ar.length m.cr) := (blk_cell bM2 12).trans rfl
    have B3 : Below w.heap.size w w3.drew := B2.drew
    have bM3 : w3.drew.heap[w.heap.size]? = _ := bM2
    have bZ3 : w3.drew.heap[gz]? = _ := bZ2
    have m12' : (w3.alloc (.cells #[.string ⟨#[0]⟩, .int .i64 41, .int .i64 1232, .int .i64 0, .string d] 53)).cell? ⟨w.heap.size, 12, none⟩ = some (.slice m.Ar m.ar.length m.cr) := (blk_cell (blk_alloc bM2 _) 12).trans rfl
    have hne1 : ¬ gr = w.heap.size := by
      rintro e
      rw [e] at bR
      have h := bM2.symm.trans bR
      simp at h
    have hne2 : ¬ w.heap.size = gr := fun e => hne1 e.symm
    have hgr3 : gr < w3.heap.size := blk_lt bR
    have hne3 : ¬ gr = w3.heap.size := Nat.ne_of_lt hgr3
    have hne5 : ¬ w.heap.size = w3.heap.size := Nat.ne_of_lt (blk_lt bM2)
    have bN := blk_new w3.drew (.cells (cellR (optR d)) 53)
    go_region_law (first
        | (refine step_app1 (w := w) (A := m.Ar) (c := m.cr) (rs := m.ar) (by rfl) _ _ (by rfl) (by rfl) (by rfl) (by rfl) HM.out.r (by omega) (by first | exact B3 | exact B3.alloc B3.size _) ?_; intro v1 w4 ho1 hg1 B4 hob; have hob : ∀ k, v1.ownBlock = some k → w3.heap.size ≤ k := (by first | exact hob | exact fun k hk => Nat.le_trans (Nat.le_succ _) (by simpa using hob k hk)); have bM4 := blk_grown (by first | exact bM3 | exact blk_alloc bM3 _) hg1 (by intro q; cases q); have bZ4 := blk_grown (by first | exact bZ3 | exact blk_alloc bZ3 _) hg1 (by intro q; cases q); have bR4 := blk_grown (by first | exact bR | exact blk_alloc bR _) hg1 (by intro q; cases q); have hne4 : ¬ gr = w4.heap.size := Nat.ne_of_lt (blk_lt bR4); have hne6 : ¬ w.heap.size = w4.heap.size := Nat.ne_of_lt (blk_lt bM4); have m12 : w4.cell? ⟨w.heap.size, 12, none⟩ = some (.slice m.Ar m.ar.length m.cr) := (blk_cell bM4 12).trans rfl; have r0 : w4.cell? ⟨gr, 0, none⟩ = some (.string ⟨#[0]⟩) := (blk_cell bR4 0).trans rfl; have r1 : w4.cell? ⟨gr, 1, none⟩ = some (.int .i64 41) := (blk_cell bR4 1).trans rfl; have r2 : w4.cell? ⟨gr, 2, none⟩ = some (.int .i64 1232) := (blk_cell bR4 2).trans rfl; have r3 : w4.cell? ⟨gr, 3, none⟩ = some (.int .i64 0) := (blk_cell bR4 3).trans rfl; have r4 : w4.cell? ⟨gr, 4, none⟩ = some (.string d) := (blk_cell bR4 4).trans rfl)
        | (refine step_app2 (w := w) (v1 := v1) (rs := m.ar) (r := optR d) (c := 1) (by rfl) _ _ (by rfl) (by rfl) (by rfl) (by rfl) (by first | exact ho1 | exact ho1.alloc _) (by first | exact blk_new w4 _ | exact blk_grown bN hg1 (by intro q; cases q)) (by omega) (by first | exact B4 | exact B4.alloc B4.size _) ?_; intro v2 w5 ho2 hg2 B5; obtain ⟨A2, c2, rfl⟩ := Sl.own_slice ho2; have bM5 := blk_grown (by first | exact bM4 | exact blk_alloc bM4 _) hg2 (own_ne ho1 bM4 (by decide)); have bZ5 := blk_grown (by first | exact bZ4 | exact blk_alloc bZ4 _) hg2 (own_ne ho1 bZ4 (by decide)); have f12 := blk_frozen bM5 12; have bR5 := blk_grown (by first | exact bR4 | exact blk_alloc bR4 _) hg2 (fun q => absurd (hob gr q.symm) (Nat.not_le_of_lt hgr3)); have m12 : w5.cell? ⟨w.heap.size, 12, none⟩ = some (.slice m.Ar m.ar.length m.cr) := (blk_cell bM5 12).trans rfl; have r0 : w5.cell? ⟨gr, 0, none⟩ = some (.string ⟨#[0]⟩) := (blk_cell bR5 0).trans rfl; have r1 : w5.cell? ⟨gr, 1, none⟩ = some (.int .i64 41) := (blk_cell bR5 1).trans rfl; have r2 : w5.cell? ⟨gr, 2, none⟩ = some (.int .i64 1232) := (blk_cell bR5 2).trans rfl; have r3 : w5.cell? ⟨gr, 3, none⟩ = some (.int .i64 0) := (blk_cell bR5 3).trans rfl; have r4 : w5.cell? ⟨gr, 4, none⟩ = some (.string d) := (blk_cell bR5 4).trans rfl))
    all_goals
      clear m12 q12 m12' r0 r1 r2 r3 r4 q0 q1 q2 q3 q4
      obtain ⟨e1, e2, e3, e4, e5⟩ := HGE.out
      have bM6 := blk_put bM5 12 (.slice A2 (m.ar.length + 1) c2) rfl
      have bZ6 := blk_set_ne (p := ⟨w.heap.size, 12, none⟩) bZ5 (Ne.symm e3) (.slice A2 (m.ar.length + 1) c2)
      have B6 := B5.setCell (p := ⟨w.heap.size, 12, none⟩) (Nat.le_refl _) (.slice A2 (m.ar.length + 1) c2)
      have o6 := putAll_own 12 [.slice A2 (m.ar.length + 1) c2] ho2 (own_ne ho2 bM5 (by decide))
      simp only [putAll] at o6
      clear bM5 bZ5 B5 ho2 bM4 bZ4 B4 ho1 bM3 bZ3 B3 bM2 bZ2 B2 hg1 hg2 hob
      generalize w5.setCell ⟨w.heap.size, 12, none⟩ (.slice A2 (m.ar.length + 1) c2) = w6 at *
      have x0 : w6.cell? ⟨w.heap.size, 0, none⟩ = some (.int .i64 m.h.id) := (blk_cell bM6 0).trans rfl
      have x1 : w6.cell? ⟨w.heap.size, 1, none⟩ = some (.bool m.h.qr) := (blk_cell bM6 1).trans rfl
      have x2 : w6.cell? ⟨w.heap.size, 2, none⟩ = some (.int .i64 m.h.op) := (blk_cell bM6 2).trans rfl
      have x3 : w6.cell? ⟨w.heap.size, 3, none⟩ = some (.bool m.h.aa) := (blk_cell bM6 3).trans rfl
      have x4 : w6.cell? ⟨w.heap.size, 4, none⟩ = some (.bool m.h.tc) := (blk_cell bM6 4).trans rfl
      have x5 : w6.cell? ⟨w.heap.size, 5, none⟩ = some (.bool m.h.rd) := (blk_cell bM6 5).trans rfl
      have x6 : w6.cell? ⟨w.heap.size, 6, none⟩ = some (.bool m.h.ra) := (blk_cell bM6 6).trans rfl
      have x7 : w6.cell? ⟨w.heap.size, 7, none⟩ = some (.int .i64 m.h.z) := (blk_cell bM6 7).trans rfl
      have x8 : w6.cell? ⟨w.heap.size, 8, none⟩ = some (.int .i64 m.h.rc) := (blk_cell bM6 8).trans rfl
      have x9 : w6.cell? ⟨w.heap.size, 9, none⟩ = some (.slice m.Aq m.qs.length m.cq) := (blk_cell bM6 9).trans rfl
      have x10 : w6.cell? ⟨w.heap.size, 10, none⟩ = some (.slice m.Aa m.an.length m.ca) := (blk_cell bM6 10).trans rfl
      have x11 : w6.cell? ⟨w.heap.size, 11, none⟩ = some (.slice m.An m.ns.length m.cn) := (blk_cell bM6 11).trans rfl
      have x12 : w6.cell? ⟨w.heap.size, 12, none⟩ = some (.slice A2 (m.ar.length + 1) c2) := (blk_cell bM6 12).trans rfl
      have z0 : w6.cell? ⟨gz, 0, none⟩ = some (.int .i64 0) := (blk_cell bZ6 0).trans rfl
      have f0 := blk_frozen bZ6 0
      have z1 : w6.cell? ⟨gz, 1, none⟩ = some (.bool false) := (blk_cell bZ6 1).trans rfl
      have f1 := blk_frozen bZ6 1
      have z2 : w6.cell? ⟨gz, 2, none⟩ = some (.int .i64 0) := (blk_cell bZ6 2).trans rfl
      have f2 := blk_frozen bZ6 2
      have z3 : w6.cell? ⟨gz, 3, none⟩ = some (.bool false) := (blk_cell bZ6 3).trans rfl
      have f3 := blk_frozen bZ6 3
      have z4 : w6.cell? ⟨gz, 4, none⟩ = some (.bool false) := (blk_cell bZ6 4).trans rfl
      have f4 := blk_frozen bZ6 4
      have z5 : w6.cell? ⟨gz, 5, none⟩ = some (.bool false) := (blk_cell bZ6 5).trans rfl
      have f5 := blk_frozen bZ6 5
      have z6 : w6.cell? ⟨gz, 6, none⟩ = some (.bool false) := (blk_cell bZ6 6).trans rfl
      have f6 := blk_frozen bZ6 6
      have z7 : w6.cell? ⟨gz, 7, none⟩ = some (.int .i64 0) := (blk_cell bZ6 7).trans rfl
      have f7 := blk_frozen bZ6 7
      have z8 : w6.cell? ⟨gz, 8, none⟩ = some (.int .i64 0) := (blk_cell bZ6 8).trans rfl
      have f8 := blk_frozen bZ6 8
      have z9 : w6.cell? ⟨gz, 9, none⟩ = some (.slice none 0 0) := (blk_cell bZ6 9).trans rfl
      have f9 := blk_frozen bZ6 9
      have z10 : w6.cell? ⟨gz, 10, none⟩ = some (.slice none 0 0) := (blk_cell bZ6 10).trans rfl
      have f10 := blk_frozen bZ6 10
      have z11 : w6.cell? ⟨gz, 11, none⟩ = some (.slice none 0 0) := (blk_cell bZ6 11).trans rfl
      have f11 := blk_frozen bZ6 11
      have z12 : w6.cell? ⟨gz, 12, none⟩ = some (.slice none 0 0) := (blk_cell bZ6 12).trans rfl
      have f12 := blk_frozen bZ6 12
      have pF := putAll_blk 0 [.int .i64 m.h.id, .bool m.h.qr, .int .i64 m.h.op, .bool m.h.aa, .bool m.h.tc, .bool m.h.rd, .bool m.h.ra, .int .i64 m.h.z, .int .i64 m.h.rc, .slice m.Aq m.qs.length m.cq, .slice m.Aa m.an.length m.ca, .slice m.An m.ns.length m.cn, .slice A2 (m.ar.length + 1) c2] #[.int .i64 m.h.id, .bool m.h.qr, .int .i64 m.h.op, .bool m.h.aa, .bool m.h.tc, .bool m.h.rd, .bool m.h.ra, .int .i64 m.h.z, .int .i64 m.h.rc, .slice m.Aq m.qs.length m.cq, .slice m.Aa m.an.length m.ca, .slice m.An m.ns.length m.cn, .slice A2 (m.ar.length + 1) c2] bZ6 (by simp [setAll])
      have BF := putAll_below 0 [.int .i64 m.h.id, .bool m.h.qr, .int .i64 m.h.op, .bool m.h.aa, .bool m.h.tc, .bool m.h.rd, .bool m.h.ra, .int .i64 m.h.z, .int .i64 m.h.rc, .slice m.Aq m.qs.length m.cq, .slice m.Aa m.an.length m.ca, .slice m.An m.ns.length m.cn, .slice A2 (m.ar.length + 1) c2] B6 e2
      have oF := putAll_own 0 [.int .i64 m.h.id, .bool m.h.qr, .int .i64 m.h.op, .bool m.h.aa, .bool m.h.tc, .bool m.h.rd, .bool m.h.ra, .int .i64 m.h.z, .int .i64 m.h.rc, .slice m.Aq m.qs.length m.cq, .slice m.Aa m.an.length m.ca, .slice m.An m.ns.length m.cn, .slice A2 (m.ar.length + 1) c2] o6 (own_ne o6 bZ6 (by decide))
      clear bM6 bZ6 B6 o6
      go_wp2_with fail
      simp only [putAll] at pF BF oF
      have y0 := (blk_cell pF 0).trans rfl
      have y1 := (blk_cell pF 1).trans rfl
      have y2 := (blk_cell pF 2).trans rfl
      have y3 := (blk_cell pF 3).trans rfl
      have y4 := (blk_cell pF 4).trans rfl
      have y5 := (blk_cell pF 5).trans rfl
      have y6 := (blk_cell pF 6).trans rfl
      have y7 := (blk_cell pF 7).trans rfl
      have y8 := (blk_cell pF 8).trans rfl
      have y9 := (blk_cell pF 9).trans rfl
      have y10 := (blk_cell pF 10).trans rfl
      have y11 := (blk_cell pF 11).trans rfl
      have y12 := (blk_cell pF 12).trans rfl
      refine bodyPost_ret (v := .agg (withM m d A2 c2).cells) (by simp [results, Try.results78, go_sem, y0, y1, y2, y3, y4, y5, y6, y7, y8, y9, y10, y11, y12]) rfl ?_
      exact ⟨A2, c2, rfl, with_lies HM.out BF oF hd, BF⟩
end Go.Proofs.Ytjklgdpffmaamaa.Pad

namespace Go.Proofs.Ytjklgdpffmaamaa.Pad
open Go.RowKit Go.PlainAid Go.Proofs.Ytjklgdpffmaamaa.Base Go.Proofs.Ytjklgdpffmaamaa.Oct
set_option linter.unusedVariables false
set_option linter.unusedSimpArgs false
def roomI (s b : Int) : Int := if s < 0 ∨ b < 1 then 0 else (b - (s + 4) % b) % b
set_option maxHeartbeats 1000000 in
theorem roomc (s b : Int) (hs : s ≤ 9223372036854775807) (hb : b ≤ 9223372036854775807) (w : World) : Calls Try.prog 28 #[.int .i64 s, .int .i64 b] w fun e w' => e = .returned (.int .i64 (roomI s b)) ∧ w' = w := by
  by_cases h : s < 0
  · have q : decide (s < 0) = true := decide_eq_true h
    have HR := Lib.hid (show roomI s b = 0 from if_pos (.inl h))
    clear h
    go_enter Try.func28, Try.ntmps28
    go_wp2
    go_ret
    exact ⟨by rw [HR.out]; rfl, rfl⟩
  by_cases h1 : b < 1
  · have q : decide (s < 0) = false := decide_eq_false h
    have q1 : decide (b < 1) = true := decide_eq_true h1
    have HR := Lib.hid (show roomI s b = 0 from if_pos (.inr h1))
    clear h h1
    go_enter Try.func28, Try.ntmps28
    go_wp2
    go_ret
    exact ⟨by rw [HR.out]; rfl, rfl⟩
  have q : decide (s < 0) = false := decide_eq_false h
  have q1 : decide (b < 1) = false := decide_eq_false h1
  have HR := Lib.hid (show roomI s b = (b - (s + 4) % b) % b from if_neg (by omega))
  go_enter Try.func28, Try.ntmps28
  go_wp2
  go_ret
  refine ⟨?_, rfl⟩
  have m0 := Int.emod_nonneg (s + 4) (show b ≠ 0 by omega)
  have m1 := Int.emod_lt_of_pos (s + 4) (show 0 < b by omega)
  have e1 : IntKind.u64.wrap (b - (s + 4) % b) = b - (s + 4) % b := by
    show (b - (s + 4) % b) % 18446744073709551616 = _
    omega
  rw [HR.out]
  show Ending.returned (.int .i64 (wrap64 ((IntKind.u64.wrap (b - (s + 4) % b)).tmod b))) = _
  rw [e1, Int.tmod_eq_emod_of_nonneg (by omega)]
  have n0 := Int.emod_nonneg (b - (s + 4) % b) (show b ≠ 0 by omega)
  have n1 := Int.emod_lt_of_pos (b - (s + 4) % b) (show 0 < b by omega)
  rw [w64 (by omega) (by omega)]
theorem room_bd (s b : Int) (hb : 1 ≤ b) : 0 ≤ roomI s b ∧ roomI s b < b := by
  unfold roomI
  split
  · omega
  · exact ⟨Int.emod_nonneg _ (by omega), Int.emod_lt_of_pos _ (by omega)⟩
theorem room_fill (s b : Int) (hs : 0 ≤ s) (hb : 1 ≤ b) : (s + 4 + roomI s b) % b = 0 := by
  unfold roomI
  rw [if_neg (by omega)]
  have h : s + 4 + (b - (s + 4) % b) = b * ((s + 4) / b + 1) := by
    have := Int.mul_ediv_add_emod (s + 4) b
    rw [Int.mul_add, Int.mul_one]
    omega
  rw [Int.add_emod_emod, h, Int.mul_emod_right]
end Go.Proofs.Ytjklgdpffmaamaa.Pad

namespace Go.Proofs.Ytjklgdpffmaamaa.CompS
open Go.RowKit Go.Proofs.Ytjklgdpffmaamaa.PCm Go.Proofs.YtjklgdpffmaamaaW.PrintWords Go.Proofs.Ytjklgdpffmaamaa.Pu
set_option linter.unusedVariables false
abbrev err : ByteArray × Int × Int := ((⟨#[]⟩ : ByteArray), 0, 500)
theorem f_at {s : ByteArray} {i : Nat} {r : ByteArray × Int × Int} (h : Ev (fun k => comp_Name.l0 k s (i : Int) [] (i : Int) (-1)) r) : Ev (fun k => comp_Name.f k s (i : Int)) r := Ev.neg (by omega) h
theorem l_end {s : ByteArray} {i : Int} {out : List Int} {bg bh : Int} (h : (s.size : Int) ≤ i) : Ev (fun k => comp_Name.l0 k s i out bg bh) err := by
  refine Ev.step (fun k => by rw [comp_Name.l0]) (Ev.neg (by omega) ?_)
  exact Ev.step (fun k => by rw [comp_Name.j1]) (Ev.neg (by simp) (Ev.some _ fun _ => rfl))
theorem l_go {s : ByteArray} {i : Int} {out : List Int} {bg bh b : Int} {r : ByteArray × Int × Int} (h0 : 0 ≤ i) (h : i < (s.size : Int)) (ho : out.length < 255) (hb : bt s i = b) (hz : b ≠ 0)
    (h1 : b ≤ 63 → Ev (fun k => comp_Name.j2 k s i out bg bh b (decide (b < wrap64 ((s.size : Int) - i)))) r) (h2 : 63 < b → Ev (fun k => comp_Name.j2 k s i out bg bh b false) r) : Ev (fun k => comp_Name.l0 k s i out bg bh) r := by
  have hr := bt_range s i
  rw [hb] at hr
  refine Ev.step (fun k => by rw [comp_Name.l0]) (Ev.pos h ?_)
  rw [decide_eq_true (show (out.length : Int) < 255 by omega)]
  refine Ev.step (fun k => by rw [comp_Name.j1]) (Ev.pos rfl (Ev.pos h0 (Ev.pos h ?_)))
  rw [hb, w64 (x := b) (by omega) (by omega)]
  refine Ev.neg hz ?_
  by_cases hc : b ≤ 63
  · exact Ev.pos hc (h1 hc)
  · exact Ev.neg hc (h2 (by omega))
theorem l_lab {s : ByteArray} {i : Int} {out : List Int} {bg bh b : Int} {r : ByteArray × Int × Int} (hs : s.size ≤ 1000000) (h0 : 0 ≤ i) (ho : out.length < 255) (hb : bt s i = b) (hz : b ≠ 0) (h63 : b ≤ 63) (hf : b < (s.size : Int) - i)
    (h : Ev (fun k => comp_Name.l0 k s (i + 1 + b) (out ++ bytesOf (s.extract i.toNat (i + 1 + b).toNat)) bg bh) r) : Ev (fun k => comp_Name.l0 k s i out bg bh) r := by
  have hr := bt_range s i
  rw [hb] at hr
  refine l_go h0 (by omega) ho hb hz (fun _ => ?_) (fun h => by omega)
  rw [w64 (x := (s.size : Int) - i) (by omega) (by omega), decide_eq_true hf]
  refine Ev.step (fun k => by rw [comp_Name.j2]) (Ev.pos rfl ?_)
  rw [w64 (x := i + 1) (by omega) (by omega), w64 (x := i + 1 + b) (by omega) (by omega), w64 (x := 1 + b) (by omega) (by omega), w64 (x := i + (1 + b)) (by omega) (by omega), show i + (1 + b) = i + 1 + b by omega]
  refine Ev.pos (by omega) (Ev.pos (by omega) (Ev.pos (by omega) (Ev.pos ?_ h)))
  rw [ByteArray.size_extract]; omega
theorem l_bad {s : ByteArray} {i : Int} {out : List Int} {bg bh b : Int} (hs : s.size ≤ 1000000) (h0 : 0 ≤ i) (h : i < (s.size : Int)) (ho : out.length < 255) (hb : bt s i = b) (h64 : 64 ≤ b) (hn : b < 192 ∨ (s.size : Int) ≤ i + 1) : Ev (fun k => comp_Name.l0 k s i out bg bh) err := by
  refine l_go h0 h ho hb (by omega) (fun h => by omega) (fun _ => ?_)
  refine Ev.step (fun k => by rw [comp_Name.j2]) (Ev.neg (by simp) ?_)
  by_cases hc : b ≥ 192
  · refine Ev.pos hc ?_
    rw [w64 (x := i + 1) (by omega) (by omega), decide_eq_false (show ¬ i + 1 < (s.size : Int) by omega)]
    exact Ev.step (fun k => by rw [comp_Name.j3]) (Ev.neg (by simp) (Ev.some _ fun _ => rfl))
  · exact Ev.neg hc (Ev.step (fun k => by rw [comp_Name.j3]) (Ev.neg (by simp) (Ev.some _ fun _ => rfl)))
/-- Where a pointer leads. -/
theorem to_eq {b c : Int} (hb : 192 ≤ b) (hb2 : b ≤ 255) (hc : 0 ≤ c) (hc2 : c ≤ 255) : Go.bits .or .i64 (wrap64 ((Go.bits .and .i64 b 63) * 256)) (wrap64 c) = (b - 192) * 256 + c := by
  rw [and_63, w64 (x := c) (by omega) (by omega), show b % 64 = b - 192 by omega, w64 (by omega) (by omega), or_shl8 _ _ (by omega) (by omega) hc hc2]
theorem l_ptr {s : ByteArray} {i : Int} {out : List Int} {bg bh b c : Int} (hs : s.size ≤ 1000000) (h0 : 0 ≤ i) (h : i + 1 < (s.size : Int)) (ho : out.length < 255) (hb : bt s i = b) (h192 : 192 ≤ b) (hc : bt s (i + 1) = c) (hto : bg ≤ (b - 192) * 256 + c) :
    Ev (fun k => comp_Name.l0 k s i out bg bh) err := by
  have r1 := bt_range s i
  have r2 := bt_range s (i + 1)
  rw [hb] at r1
  rw [hc] at r2
  refine l_go h0 (by omega) ho hb (by omega) (fun h => by omega) (fun _ => ?_)
  refine Ev.step (fun k => by rw [comp_Name.j2]) (Ev.neg (by simp) (Ev.pos h192 ?_))
  rw [w64 (x := i + 1) (by omega) (by omega), decide_eq_true h]
  refine Ev.step (fun k => by rw [comp_Name.j3]) (Ev.pos rfl ?_)
  rw [w64 (x := i + 1) (by omega) (by omega)]
  refine Ev.pos (by omega) (Ev.pos h (Ev.pos ?_ (Ev.some _ fun _ => rfl)))
  rw [hc, to_eq h192 r1.2 r2.1 r2.2]
  exact hto
end Go.Proofs.Ytjklgdpffmaamaa.CompS

namespace Go.Proofs.Ytjklgdpffmaamaa.Wr
open Go.RowKit Go.PlainAid Go.Proofs.Ytjklgdpffmaamaa.Base Go.Proofs.Ytjklgdpffmaamaa.Oct Go.Proofs.Ytjklgdpffmaamaa.Nm
set_option linter.unusedVariables false
/-! ### Bytes -/
theorem ext_list (s : ByteArray) (i j : Nat) : (s.extract i j).data.toList = (s.data.toList.take j).drop i := by
  rw [ByteArray.data_extract, Array.toList_extract, List.extract_eq_take_drop, List.drop_take]
theorem ext_of {a b : ByteArray} (h : a.data.toList = b.data.toList) : a = b := ByteArray.ext (Array.ext' h)
theorem app_list (a b : ByteArray) : (a ++ b).data.toList = a.data.toList ++ b.data.toList := by rw [ByteArray.data_append, Array.toList_append]
theorem ext_join (s : ByteArray) (i j k : Nat) (h1 : i ≤ j) (h2 : j ≤ k) : s.extract i j ++ s.extract j k = s.extract i k := by
  apply ext_of
  rw [app_list, ext_list, ext_list, ext_list]
  generalize s.data.toList = l
  rw [← List.take_append_drop (j - i) ((l.take k).drop i), List.drop_drop, List.take_drop, List.take_take, show min (i + (j - i)) k = j by omega, show i + (j - i) = j by omega]
theorem ext_left (a b : ByteArray) (i j : Nat) (h : j ≤ a.size) : (a ++ b).extract i j = a.extract i j := by
  apply ext_of
  rw [ext_list, ext_list, app_list, List.take_append_of_le_length (by rw [len_data]; exact h)]
theorem ext_right (a b : ByteArray) (k : Nat) : (a ++ b).extract a.size (a.size + k) = b.extract 0 k := by
  apply ext_of
  rw [ext_list, ext_list, app_list]
  rw [List.take_append, len_data, List.drop_append, List.length_take, len_data, List.drop_eq_nil_of_le (by rw [List.length_take, len_data]; omega), show min (a.size + k) a.size = a.size by omega, show a.size - a.size = 0 by omega, show a.size + k - a.size = k by omega]
  simp
theorem ext_root {s : ByteArray} {p : Nat} (h : p + 1 = s.size) (h0 : bt s p = 0) : s.extract p s.size = root := by
  have hb := bt_data s p
  rw [h0] at hb
  have hl := len_data s
  apply ext_of
  rw [ext_list, ← h, List.take_of_length_le (by omega), List.drop_eq_getElem_cons (by omega), List.drop_eq_nil_of_le (by omega)]
  rw [List.getD_eq_getElem?_getD, List.getElem?_eq_getElem (by omega)] at hb
  have : (s.data.toList[p]'(by omega)).toNat = 0 := by simpa using hb.symm
  have : s.data.toList[p]'(by omega) = 0 := UInt8.toNat_inj.1 this
  rw [this]
/-! ### Names that lie in bytes -/
inductive Lies (S : ByteArray) : Nat → ByteArray → Nat → Nat → Prop
  | fin (bg i : Nat) (h : i < S.size) (h0 : bt S i = 0) : Lies S bg root i (i + 1)
  | lab (bg i k : Nat) (r : ByteArray) (nx : Nat) (hb : bt S i = (k : Int)) (h0 : 1 ≤ k) (h1 : k ≤ 63) (h : i + 1 + k ≤ S.size) (ih : Lies S bg r (i + 1 + k) nx) : Lies S bg (S.extract i (i + 1 + k) ++ r) i nx
  | ptr (bg i b c tg : Nat) (r : ByteArray) (nx : Nat) (hb : bt S i = (b : Int)) (hc : bt S (i + 1) = (c : Int)) (h0 : 192 ≤ b) (ht : tg = (b - 192) * 256 + c) (hlt : tg < bg) (h : i + 1 < S.size) (ih : Lies S tg r tg nx) : Lies S bg r i (i + 2)
theorem Lies.more {S : ByteArray} (T : ByteArray) {bg : Nat} {r : ByteArray} {i nx : Nat} (h : Lies S bg r i nx) : Lies (S ++ T) bg r i nx := by
  have z : (S ++ T).size = S.size + T.size := ByteArray.size_append
  induction h with
  | fin bg i h h0 => exact .fin bg i (by omega) (by rw [bt_append_left _ _ _ h]; exact h0)
  | lab bg i k r nx hb h0 h1 h _ ih =>
    have := Lies.lab (S := S ++ T) bg i k r nx (by rw [bt_append_left _ _ _ (by omega)]; exact hb) h0 h1 (by omega) ih
    rwa [ext_left _ _ _ _ h] at this
  | ptr bg i b c tg r nx hb hc h0 ht hlt h _ ih =>
    exact .ptr bg i b c tg r nx (by rw [bt_append_left _ _ _ (by omega)]; exact hb) (by rw [bt_append_left _ _ _ (by omega)]; exact hc) h0 ht hlt (by omega) ih
theorem Lies.wide {S : ByteArray} {bg bg' : Nat} {r : ByteArray} {i nx : Nat} (h : Lies S bg r i nx) (hb : bg ≤ bg') : Lies S bg' r i nx := by
  induction h generalizing bg' with
  | fin bg i h h0 => exact .fin bg' i h h0
  | lab bg i k r nx hb' h0 h1 h _ ih => exact .lab bg' i k r nx hb' h0 h1 h (ih hb)
  | ptr bg i b c tg r nx hb' hc h0 ht hlt h ih _ => exact .ptr bg' i b c tg r nx hb' hc h0 ht (by omega) h ih
theorem Lies.lt {S : ByteArray} {bg : Nat} {r : ByteArray} {i nx : Nat} (h : Lies S bg r i nx) : i < S.size := by
  cases h <;> omega
theorem Lies.pos {S : ByteArray} {bg : Nat} {r : ByteArray} {i nx : Nat} (h : Lies S bg r i nx) : 1 ≤ r.size := by
  induction h with
  | fin => decide
  | lab bg i k r nx _ _ _ _ _ ih => rw [ByteArray.size_append]; omega
  | ptr _ _ _ _ _ _ _ _ _ _ _ _ _ _ ih => exact ih
/-! ### What lies is read -/
section
open Go.Proofs.Ytjklgdpffmaamaa.PCm Go.Proofs.Ytjklgdpffmaamaa.CompS Go.Proofs.Ytjklgdpffmaamaa.Pu
open Go.Proofs.YtjklgdpffmaamaaW.PrintWords (bytesOf bytesOf_length Ev)
theorem bt_is (s : ByteArray) (i : Nat) : Go.Proofs.YtjklgdpffmaamaaW.PrintWords.bt s (i : Int) = bt s i := by
  rw [bt_bytes, bt_data, List.getD_eq_getElem?_getD, List.getD_eq_getElem?_getD, bytesOf, List.getElem?_map]
  cases s.data.toList[i]? <;> rfl
theorem Lies.read {S : ByteArray} (hS : S.size ≤ 1000000) {bg : Nat} {r : ByteArray} {i nx : Nat} (h : Lies S bg r i nx) : ∀ (out : List Int) (bh : Int), out.length + r.size ≤ 255 →
    Ev (fun k => comp_Name.l0 k S (i : Int) out (bg : Int) bh) (strOfNums (out ++ bytesOf r), (if bh < 0 then (nx : Int) else bh), 0) := by
  induction h with
  | fin bg i h h0 =>
    intro out bh ho
    have z : root.size = 1 := rfl
    have hb := bt_is S i
    rw [h0] at hb
    refine Ev.step (fun k => by rw [comp_Name.l0]) (Ev.pos (by omega) ?_)
    rw [decide_eq_true (show (out.length : Int) < 255 by omega)]
    refine Ev.step (fun k => by rw [comp_Name.j1]) (Ev.pos rfl (Ev.pos (by omega) (Ev.pos (by omega) ?_)))
    rw [hb]
    refine Ev.pos (Pu.w64 (by decide) (by decide)) ?_
    rw [show bytesOf root = [0] by decide +kernel]
    by_cases hbh : bh < 0
    · refine Ev.pos hbh (Ev.pos (by omega) ?_)
      rw [if_pos hbh, Pu.w64 (x := (i : Int) + 1) (by omega) (by omega)]
      exact Ev.some _ fun _ => rfl
    · refine Ev.neg hbh (Ev.pos (by omega) ?_)
      rw [if_neg hbh]
      exact Ev.some _ fun _ => rfl
  | lab bg i k r nx hb h0 h1 h hr ih =>
    intro out bh ho
    have z : (S.extract i (i + 1 + k)).size = k + 1 := by rw [ByteArray.size_extract]; omega
    rw [ByteArray.size_append, z] at ho
    have hp := hr.pos
    refine l_lab (b := (k : Int)) hS (by omega) (by omega) ((bt_is S i).trans hb) (by omega) (by omega) (by omega) ?_
    have e : ((i : Int) + 1 + (k : Int)) = ((i + 1 + k : Nat) : Int) := by omega
    rw [e]
    have := ih (out ++ bytesOf (S.extract i (i + 1 + k))) bh (by rw [List.length_append, bytesOf_length, z]; omega)
    rw [bytesOf_append, ← List.append_assoc]
    exact this
  | ptr bg i b c tg r nx hb hc h0 ht hlt h hr ih =>
    intro out bh ho
    have hp := hr.pos
    have hb' := (bt_is S i).trans hb
    have hc' := (bt_is S (i + 1)).trans hc
    have r1 := Go.Proofs.YtjklgdpffmaamaaW.PrintWords.bt_range S (i : Int)
    have r2 := Go.Proofs.YtjklgdpffmaamaaW.PrintWords.bt_range S ((i : Int) + 1)
    have e1 : ((i + 1 : Nat) : Int) = (i : Int) + 1 := by omega
    rw [e1] at hc'
    rw [hb'] at r1
    rw [hc'] at r2
    have hto : Go.bits .or .i64 (wrap64 ((Go.bits .and .i64 (b : Int) 63) * 256)) (wrap64 (c : Int)) = (tg : Int) := by
      rw [to_eq (by omega) r1.2 r2.1 r2.2, ht]; omega
    refine l_go (b := (b : Int)) (by omega) (by omega) (by omega) hb' (by omega) (fun h => by omega) (fun _ => ?_)
    refine Ev.step (fun k => by rw [comp_Name.j2]) (Ev.neg (by simp) (Ev.pos (by omega) ?_))
    rw [Pu.w64 (x := (i : Int) + 1) (by omega) (by omega), decide_eq_true (show (i : Int) + 1 < (S.size : Int) by omega)]
    refine Ev.step (fun k => by rw [comp_Name.j3]) (Ev.pos rfl ?_)
    rw [Pu.w64 (x := (i : Int) + 1) (by omega) (by omega)]
    refine Ev.pos (by omega) (Ev.pos (by omega) (Ev.neg ?_ ?_))
    · rw [hc', hto]; omega
    · rw [hc', hto]
      by_cases hbh : bh < 0
      · refine Ev.pos hbh ?_
        rw [if_pos hbh, Pu.w64 (x := (i : Int) + 2) (by omega) (by omega)]
        have := ih out ((i : Int) + 2) ho
        rw [if_neg (by omega)] at this
        exact this
      · refine Ev.neg hbh ?_
        rw [if_neg hbh]
        have := ih out bh ho
        rw [if_neg hbh] at this
        exact this
theorem Lies.name {S : ByteArray} (hS : S.size ≤ 1000000) {r : ByteArray} {i nx : Nat} (h : Lies S i r i nx) (hr : r.size ≤ 255) : Ev (fun k => comp_Name.f k S (i : Int)) (r, (nx : Int), 0) := by
  have := h.read hS [] (-1) (by simpa using hr)
  rw [List.nil_append, nums_bytesOf, if_pos (by decide)] at this
  exact f_at this
end
/-! ### What a writer puts behind lies -/
/-- All that is kept lies where it is said to. -/
def Known (S : ByteArray) (m : ByteArray → Option Int) : Prop := ∀ r t, m r = some t → ∃ i nx : Nat, t = (i : Int) ∧ i < 16384 ∧ Lies S i r i nx
/-- The rest of what is put behind, from a place on. -/
def tailN (s : ByteArray) (p : Nat) : Option (Nat × Nat × Int) → ByteArray
  | some (_, q, t) => s.extract p q ++ p16 (Go.bits .or .i64 49152 t)
  | none => s.extract p s.size
def wroteF (i n : Nat) : Option (Nat × Nat × Int) → Nat
  | some (j, _, _) => j - i
  | none => n
theorem p16_ptr (t : Nat) (ht : t < 16384) : bt (p16 (Go.bits .or .i64 49152 (t : Int))) 0 = ((192 + t / 256 : Nat) : Int) ∧ bt (p16 (Go.bits .or .i64 49152 (t : Int))) 1 = ((t % 256 : Nat) : Int) := by
  have e : Go.bits .or .i64 49152 (t : Int) = 49152 + (t : Int) := by
    have := Pu.or_shl 14 (by decide) 3 (t : Int) (by decide) (by omega) (by omega) (by omega)
    simpa using this
  rw [e]
  unfold p16
  constructor
  · rw [bt_nums _ 0 ((49152 + (t : Int)) / 256 % 256) (by rfl) (by omega) (by omega)]; omega
  · rw [bt_nums _ 1 ((49152 + (t : Int)) % 256) (by rfl) (by omega) (by omega)]; omega
theorem find_ge (m : ByteArray → Option Int) (s : ByteArray) : ∀ (ps : List Nat) (i j p : Nat) (t : Int), findP m s ps i = some (j, p, t) → i ≤ j ∧ m (s.extract p s.size) = some t := by
  intro ps
  induction ps with
  | nil => intro i j p t h; cases h
  | cons a ps ih =>
    intro i j p t h
    rw [findP] at h
    cases hm : m (s.extract a s.size) with
    | none => rw [hm] at h; have := ih _ _ _ _ h; exact ⟨by omega, this.2⟩
    | some u =>
      rw [hm] at h
      injection h with h
      injection h with h1 h
      injection h with h2 h3
      subst h2; subst h3
      exact ⟨by omega, hm⟩
theorem placesAt_ge (s : ByteArray) : ∀ n i, s.size - i ≤ n → ∀ p ∈ placesAt s i, i ≤ p := by
  intro n
  induction n with
  | zero => intro i h p hp; rw [placesAt, if_neg (by omega)] at hp; cases hp
  | succ n ih =>
    intro i h p hp
    rw [placesAt] at hp
    by_cases hi : i < s.size
    · rw [if_pos hi] at hp
      rcases List.mem_cons.1 hp with rfl | hp
      · exact Nat.le_refl _
      · by_cases h0 : PlainAid.bt s i = 0
        · rw [if_pos h0] at hp; cases hp
        · rw [if_neg h0] at hp
          by_cases h1 : 63 < PlainAid.bt s i
          · rw [if_pos h1] at hp; cases hp
          · rw [if_neg h1] at hp
            have := ih (i + 1 + (PlainAid.bt s i).toNat) (by omega) p hp
            omega
    · rw [if_neg hi] at hp; cases hp
theorem put_lies {S s : ByteArray} {m : ByteArray → Option Int} (hm : Known S m) (bg : Nat) (hbg : S.size ≤ bg) : ∀ (n p i : Nat), s.size - p ≤ n → nameAt s p = true → ∀ T : ByteArray, (∃ U, T = S ++ U) →
    (tailN s p (findP m s (placesAt s p).dropLast i)).size + p ≤ s.size ∧
    Lies (T ++ tailN s p (findP m s (placesAt s p).dropLast i)) bg (s.extract p s.size) T.size (T ++ tailN s p (findP m s (placesAt s p).dropLast i)).size ∧
    ∀ q ∈ (placesAt s p).dropLast.take (wroteF i (placesAt s p).dropLast.length (findP m s (placesAt s p).dropLast i)), Lies (T ++ tailN s p (findP m s (placesAt s p).dropLast i)) bg (s.extract q s.size) (T.size + (q - p)) (T ++ tailN s p (findP m s (placesAt s p).dropLast i)).size := by
  intro n
  induction n with
  | zero => intro p i h hn; rw [nameAt_out (by omega)] at hn; cases hn
  | succ n ih =>
    intro p i h hn T hT
    have hp : p < s.size := by
      by_cases h : p < s.size
      · exact h
      · rw [nameAt_out (by omega)] at hn; cases hn
    by_cases h0 : bt s p = 0
    · rw [nameAt_end hp h0] at hn
      have he : p + 1 = s.size := by simpa using hn
      have er := ext_root he h0
      rw [placesAt_end hp h0]
      show (s.extract p s.size).size + p ≤ s.size ∧ Lies (T ++ s.extract p s.size) bg (s.extract p s.size) T.size (T ++ s.extract p s.size).size ∧ _
      rw [er]
      have z : (T ++ root).size = T.size + 1 := by rw [ByteArray.size_append]; rfl
      refine ⟨by show 1 + p ≤ s.size; omega, ?_, fun q hq => by simp at hq⟩
      rw [z]
      exact .fin bg T.size (by omega) (by rw [bt_append_right _ _ _ (by omega), Nat.sub_self]; exact root_bt)
    · have h63 : bt s p ≤ 63 := by
        by_cases h1 : 63 < bt s p
        · rw [nameAt_bad hp h1] at hn; cases hn
        · omega
      rw [nameAt_next hp h0 h63] at hn
      obtain ⟨k, hk⟩ : ∃ k : Nat, bt s p = (k : Int) := ⟨(bt s p).toNat, by have := bt_nonneg s p; omega⟩
      have hk0 : 1 ≤ k := by omega
      rw [hk, Int.toNat_natCast] at hn
      have hq : p + 1 + k < s.size := by
        by_cases h : p + 1 + k < s.size
        · exact h
        · rw [nameAt_out (by omega)] at hn; cases hn
      have hd : (placesAt s p).dropLast = p :: (placesAt s (p + 1 + k)).dropLast := by
        rw [placesAt_next hp h0 h63, hk, Int.toNat_natCast, List.dropLast_cons_of_ne_nil (places_ne _ _ hn)]
      rw [hd]
      cases hmp : m (s.extract p s.size) with
      | some t =>
        obtain ⟨tg, nx, rfl, hto, hl⟩ := hm _ _ hmp
        have ef : findP m s (p :: (placesAt s (p + 1 + k)).dropLast) i = some (i, p, (tg : Int)) := by rw [findP, hmp]
        rw [ef]
        obtain ⟨U, rfl⟩ := hT
        have e : tailN s p (some (i, p, (tg : Int))) = p16 (Go.bits .or .i64 49152 (tg : Int)) := by
          show s.extract p p ++ _ = _
          simp
        rw [e]
        have z : (S ++ U ++ p16 (Go.bits .or .i64 49152 (tg : Int))).size = (S ++ U).size + 2 := by rw [ByteArray.size_append, p16_size]
        have zS : S.size ≤ (S ++ U).size := by rw [ByteArray.size_append]; omega
        have hpt := p16_ptr tg hto
        refine ⟨by rw [p16_size]; omega, ?_, fun q hq => by simp [wroteF] at hq⟩
        rw [z]
        refine .ptr bg (S ++ U).size (192 + tg / 256) (tg % 256) tg _ nx ?_ ?_ (by omega) (by omega) (by have := hl.lt; omega) (by omega) ?_
        · rw [bt_append_right _ _ _ (by omega), Nat.sub_self]; exact hpt.1
        · rw [bt_append_right _ _ _ (by omega), Nat.add_sub_cancel_left]; exact hpt.2
        · rw [ByteArray.append_assoc]; exact hl.more _
      | none =>
        have ef : findP m s (p :: (placesAt s (p + 1 + k)).dropLast) i = findP m s (placesAt s (p + 1 + k)).dropLast (i + 1) := by rw [findP, hmp]
        rw [ef]
        have IH := ih (p + 1 + k) (i + 1) (by omega) hn (T ++ s.extract p (p + 1 + k)) (by obtain ⟨U, rfl⟩ := hT; exact ⟨U ++ s.extract p (p + 1 + k), by rw [ByteArray.append_assoc]⟩)
        have hge : ∀ j q t, findP m s (placesAt s (p + 1 + k)).dropLast (i + 1) = some (j, q, t) → p + 1 + k ≤ q ∧ i + 1 ≤ j := fun j q t hf =>
          ⟨placesAt_ge s _ _ (Nat.le_refl _) q (List.dropLast_subset _ ((find_le m s _ _ _ _ _ hf).2)), (find_ge m s _ _ _ _ _ hf).1⟩
        generalize findP m s (placesAt s (p + 1 + k)).dropLast (i + 1) = f at IH hge ⊢
        have ze : (s.extract p (p + 1 + k)).size = 1 + k := by rw [ByteArray.size_extract]; omega
        have et : tailN s p f = s.extract p (p + 1 + k) ++ tailN s (p + 1 + k) f := by
          match f, hge with
          | none, _ => exact (ext_join s p (p + 1 + k) s.size (by omega) (by omega)).symm
          | some (j, q, t), hge =>
            show s.extract p q ++ _ = s.extract p (p + 1 + k) ++ (s.extract (p + 1 + k) q ++ _)
            rw [← ByteArray.append_assoc, ext_join s p (p + 1 + k) q (by omega) (hge j q t rfl).1]
        rw [et, ← ByteArray.append_assoc]
        have zT : (T ++ s.extract p (p + 1 + k)).size = T.size + 1 + k := by rw [ByteArray.size_append, ze]; omega
        obtain ⟨i1, i2, i3⟩ := IH
        rw [zT] at i2 i3
        have L : Lies (T ++ s.extract p (p + 1 + k) ++ tailN s (p + 1 + k) f) bg (s.extract p s.size) T.size (T ++ s.extract p (p + 1 + k) ++ tailN s (p + 1 + k) f).size := by
          have b0 : bt (T ++ s.extract p (p + 1 + k) ++ tailN s (p + 1 + k) f) T.size = (k : Int) := by
            rw [ByteArray.append_assoc, bt_append_right _ _ _ (by omega), Nat.sub_self, bt_append_left _ _ _ (by omega)]
            have : bt (s.extract p (p + 1 + k)) 0 = bt s p := by
              rw [bt_data, bt_data, ext_list, List.getD_eq_getElem?_getD, List.getD_eq_getElem?_getD, List.getElem?_drop, List.getElem?_take_of_lt (by omega), Nat.add_zero]
            rw [this, hk]
          have := Lies.lab bg T.size k (s.extract (p + 1 + k) s.size) _ b0 hk0 (by omega) (by rw [ByteArray.size_append, zT]; omega) i2
          rw [ByteArray.append_assoc, show T.size + 1 + k = T.size + (1 + k) by omega, ext_right T _ (1 + k), ext_left _ _ _ _ (by omega)] at this
          rw [show (s.extract p (p + 1 + k)).extract 0 (1 + k) = s.extract p (p + 1 + k) by have := ext0 (s.extract p (p + 1 + k)); rwa [ze] at this, ext_join s p (p + 1 + k) s.size (by omega) (by omega), ← ByteArray.append_assoc] at this
          exact this
        refine ⟨by rw [ByteArray.size_append, ze]; omega, L, fun q hq => ?_⟩
        have hw : wroteF i (p :: (placesAt s (p + 1 + k)).dropLast).length f = wroteF (i + 1) (placesAt s (p + 1 + k)).dropLast.length f + 1 := by
          match f, hge with
          | none, _ => rfl
          | some (j, q, t), hge => have := (hge j q t rfl).2; show j - i = j - (i + 1) + 1; omega
        rw [hw, List.take_succ_cons] at hq
        rcases List.mem_cons.1 hq with rfl | hq
        · rw [Nat.sub_self, Nat.add_zero]; exact L
        · have h3 := i3 q hq
          have := placesAt_ge s _ _ (Nat.le_refl _) q (List.dropLast_subset _ (List.mem_of_mem_take hq))
          rw [show T.size + (q - p) = T.size + 1 + k + (q - (p + 1 + k)) by omega]
          exact h3
theorem putK_inv (s x : ByteArray) (at0 : Nat) (t : Int) : ∀ (ps : List Nat) (m : ByteArray → Option Int), putK m s at0 ps x = some t → m x = some t ∨ ∃ p ∈ ps, x = s.extract p s.size ∧ t = (at0 : Int) + p := by
  intro ps
  induction ps with
  | nil => intro m h; exact .inl h
  | cons p ps ih =>
    intro m h
    rcases ih _ h with h | ⟨q, hq, h⟩
    · replace h : (if x = s.extract p s.size then some ((at0 : Int) + p) else m x) = some t := h
      by_cases e : x = s.extract p s.size
      · rw [if_pos e] at h
        injection h with h
        exact .inr ⟨p, List.mem_cons_self .., e, h.symm⟩
      · rw [if_neg e] at h; exact .inl h
    · exact .inr ⟨q, List.mem_cons_of_mem _ hq, h⟩
/-- Behind a name that was put: it lies where the bytes ended, all that is kept lies; it is no longer than it is. -/
theorem put_known {S s : ByteArray} {m : ByteArray → Option Int} (hm : Known S m) (hs : nameB s = true) (hz : S.size + s.size < 16384) :
    (outN m s).size ≤ s.size ∧ Lies (S ++ outN m s) S.size s S.size (S ++ outN m s).size ∧ Known (S ++ outN m s) (putN m s S.size) := by
  obtain ⟨h1, h2, h3⟩ := name_first hs
  have eo : outN m s = tailN s 0 (findP m s (placesAt s 0).dropLast 0) := by
    unfold outN heads places
    cases findP m s (placesAt s 0).dropLast 0 with
    | none => show s = s.extract 0 s.size; rw [ext0]
    | some r => obtain ⟨i, p, t⟩ := r; rfl
  have ew : wroteN m s = wroteF 0 (placesAt s 0).dropLast.length (findP m s (placesAt s 0).dropLast 0) := by
    unfold wroteN heads places
    cases findP m s (placesAt s 0).dropLast 0 with
    | none => rfl
    | some r => obtain ⟨i, p, t⟩ := r; rfl
  have H := put_lies hm S.size (Nat.le_refl _) s.size 0 0 (by omega) h3 S ⟨⟨#[]⟩, by apply ext_of; rw [app_list]; simp⟩
  rw [← eo, ← ew, ext0] at H
  refine ⟨by have := H.1; omega, H.2.1, fun r t hr => ?_⟩
  rcases putK_inv s r S.size t _ _ hr with hr | ⟨p, hp, rfl, rfl⟩
  · obtain ⟨i, nx, e, hi, hl⟩ := hm r t hr
    exact ⟨i, nx, e, hi, hl.more _⟩
  · have hl := H.2.2 p hp
    have hps := placesAt_mem s _ 0 (Nat.le_refl _) p (List.dropLast_subset _ (List.mem_of_mem_take hp))
    rw [Nat.sub_zero] at hl
    exact ⟨S.size + p, _, by omega, by omega, hl.wide (by omega)⟩
end Go.Proofs.Ytjklgdpffmaamaa.Wr

namespace Go.Proofs.Ytjklgdpffmaamaa.Hd
open Go.RowKit Go.PlainAid Go.Proofs.Ytjklgdpffmaamaa.Base Go.Proofs.Ytjklgdpffmaamaa.Oct
set_option linter.unusedVariables false

def bi (b : Bool) : Int := bif b then 1 else 0
theorem bi_bd (b : Bool) : 0 ≤ bi b ∧ bi b ≤ 1 := by cases b <;> decide
theorem bi_inj (b : Bool) : (bi b == 1) = b := by cases b <;> rfl
theorem bw15 (b : Bool) : bitW b 15 = 32768 * bi b := by cases b <;> rfl
theorem bw10 (b : Bool) : bitW b 10 = 1024 * bi b := by cases b <;> rfl
theorem bw9 (b : Bool) : bitW b 9 = 512 * bi b := by cases b <;> rfl
theorem bw8 (b : Bool) : bitW b 8 = 256 * bi b := by cases b <;> rfl
theorem bw7 (b : Bool) : bitW b 7 = 128 * bi b := by cases b <;> rfl
theorem orj (i : Nat) (x y : Int) (hx : 0 ≤ x) (hm : x % 2 ^ i = 0) (hx1 : x < 9223372036854775808) (hy : 0 ≤ y) (hy1 : y < 2 ^ i) (hy2 : y < 9223372036854775808) : Go.bits .or .i64 x y = x + y :=
  bits_join .i64 63 (by decide) wraps_i64 i x y hx hm (by omega) hy hy1 (by omega)
def Head.sum (h : Head) : Int := 32768 * bi h.qr + 2048 * h.op + 1024 * bi h.aa + 512 * bi h.tc + 256 * bi h.rd + 128 * bi h.ra + 16 * h.z + h.rc
theorem flags_sum (h : Head) (a0 : 0 ≤ h.op) (a1 : h.op ≤ 15) (a2 : 0 ≤ h.z) (a3 : h.z ≤ 7) (a4 : 0 ≤ h.rc) (a5 : h.rc ≤ 15) : h.flagsN = h.sum := by
  have b0 := bi_bd h.qr; have b1 := bi_bd h.aa; have b2 := bi_bd h.tc; have b3 := bi_bd h.rd; have b4 := bi_bd h.ra
  unfold Head.flagsN Head.sum
  rw [bw15, bw10, bw9, bw8, bw7]
  rw [orj 15 (32768 * bi h.qr) (h.op * 2048) (by omega) (by omega) (by omega) (by omega) (by omega) (by omega)]
  rw [orj 11 _ (1024 * bi h.aa) (by omega) (by omega) (by omega) (by omega) (by omega) (by omega)]
  rw [orj 10 _ (512 * bi h.tc) (by omega) (by omega) (by omega) (by omega) (by omega) (by omega)]
  rw [orj 9 _ (256 * bi h.rd) (by omega) (by omega) (by omega) (by omega) (by omega) (by omega)]
  rw [orj 8 _ (128 * bi h.ra) (by omega) (by omega) (by omega) (by omega) (by omega) (by omega)]
  rw [orj 7 _ (h.z * 16) (by omega) (by omega) (by omega) (by omega) (by omega) (by omega)]
  rw [orj 4 _ h.rc (by omega) (by omega) (by omega) (by omega) (by omega) (by omega)]
  omega
theorem and15 (x : Int) : Go.bits .and .i64 x 15 = x % 16 := and_mask 4 (by decide) x
theorem and7 (x : Int) : Go.bits .and .i64 x 7 = x % 8 := and_mask 3 (by decide) x

/-! ### Bytes -/
theorem be2_left (s t : ByteArray) (i : Nat) (h : i + 2 ≤ s.size) : be2 (s ++ t) i = be2 s i := by
  unfold be2; rw [bt_append_left _ _ _ (by omega), bt_append_left _ _ _ (by omega)]
theorem be2_right (s t : ByteArray) (i : Nat) (h : s.size ≤ i) : be2 (s ++ t) i = be2 t (i - s.size) := by
  unfold be2; rw [bt_append_right _ _ _ (by omega), bt_append_right _ _ _ (by omega), show i + 1 - s.size = i - s.size + 1 by omega]
theorem be2_p16 (x : Int) (h0 : 0 ≤ x) (h1 : x ≤ 65535) : be2 (p16 x) 0 = x := by
  unfold be2 p16
  rw [bt_nums _ 0 (x / 256 % 256) rfl (by omega) (by omega), bt_nums _ 1 (x % 256) rfl (by omega) (by omega)]
  omega
theorem putS_size (h : Head) (a b c d : Int) : (h.putS a b c d).size = 12 := by
  simp [Head.putS, ByteArray.size_append, p16_size]
/-- Two bytes, then the rest. -/
theorem be2_at (s t : ByteArray) (x : Int) (i : Nat) (hs : s.size = i) (h0 : 0 ≤ x) (h1 : x ≤ 65535) : be2 (s ++ p16 x ++ t) i = x := by
  subst hs
  rw [be2_left _ _ _ (by rw [ByteArray.size_append, p16_size]; omega), be2_right _ _ _ (by omega), Nat.sub_self, be2_p16 x h0 h1]
theorem flagsW_sum (h : Head) (hk : h.ok) : h.flagsW = h.sum := by
  obtain ⟨_, k1, k2, k3⟩ := hk
  rw [flags_eq h k1.1 k1.2 k3.1 k3.2, flags_sum h k1.1 k1.2 k3.1 k3.2 k2.1 k2.2]
theorem sum_bd (h : Head) (hk : h.ok) : 0 ≤ h.sum ∧ h.sum ≤ 65535 := by
  obtain ⟨_, k1, k2, k3⟩ := hk
  have b0 := bi_bd h.qr; have b1 := bi_bd h.aa; have b2 := bi_bd h.tc; have b3 := bi_bd h.rd; have b4 := bi_bd h.ra
  unfold Head.sum; omega
theorem bitB_of (f k : Int) (p : Int) (b : Bool) (hp : bitB f k = (Go.bits .and .i64 (f / p) 1 == 1)) (h : f / p % 2 = bi b) : bitB f k = b := by
  rw [hp, and_1, h]; exact bi_inj b
theorem back (h : Head) (a b c d : Int) (t : ByteArray) (hm : mayB h a b c d = true) : gotH (h.putS a b c d ++ t) = h ∧ gotC (h.putS a b c d ++ t) 4 = a ∧ gotC (h.putS a b c d ++ t) 6 = b ∧ gotC (h.putS a b c d ++ t) 8 = c ∧ gotC (h.putS a b c d ++ t) 10 = d ∧ gotE (h.putS a b c d ++ t) = 0 := by
  obtain ⟨⟨h0, h1, h2, h3⟩, hk⟩ := of_decide_eq_true hm
  have hz : 12 ≤ (h.putS a b c d ++ t).size := by rw [ByteArray.size_append, putS_size]; omega
  have hf := flagsW_sum h hk
  have hb := sum_bd h hk
  rw [gotH_yes hz, gotC_yes hz, gotC_yes hz, gotC_yes hz, gotC_yes hz, gotE_yes hz]
  have e0 : be2 (h.putS a b c d ++ t) 0 = h.id := by
    unfold Head.putS
    rw [show p16 h.id ++ p16 h.flagsW ++ p16 a ++ p16 b ++ p16 c ++ p16 d ++ t = ByteArray.empty ++ p16 h.id ++ (p16 h.flagsW ++ p16 a ++ p16 b ++ p16 c ++ p16 d ++ t) by simp [ByteArray.append_assoc]]
    exact be2_at _ _ _ _ rfl hk.1.1 hk.1.2
  have e2 : be2 (h.putS a b c d ++ t) 2 = h.sum := by
    unfold Head.putS
    rw [show p16 h.id ++ p16 h.flagsW ++ p16 a ++ p16 b ++ p16 c ++ p16 d ++ t = p16 h.id ++ p16 h.flagsW ++ (p16 a ++ p16 b ++ p16 c ++ p16 d ++ t) by simp [ByteArray.append_assoc], hf]
    exact be2_at _ _ _ _ (p16_size _) hb.1 hb.2
  have e4 : be2 (h.putS a b c d ++ t) 4 = a := by
    unfold Head.putS
    rw [show p16 h.id ++ p16 h.flagsW ++ p16 a ++ p16 b ++ p16 c ++ p16 d ++ t = (p16 h.id ++ p16 h.flagsW) ++ p16 a ++ (p16 b ++ p16 c ++ p16 d ++ t) by simp [ByteArray.append_assoc]]
    exact be2_at _ _ _ _ (by simp [ByteArray.size_append, p16_size]) h0.1 h0.2
  have e6 : be2 (h.putS a b c d ++ t) 6 = b := by
    unfold Head.putS
    rw [show p16 h.id ++ p16 h.flagsW ++ p16 a ++ p16 b ++ p16 c ++ p16 d ++ t = (p16 h.id ++ p16 h.flagsW ++ p16 a) ++ p16 b ++ (p16 c ++ p16 d ++ t) by simp [ByteArray.append_assoc]]
    exact be2_at _ _ _ _ (by simp [ByteArray.size_append, p16_size]) h1.1 h1.2
  have e8 : be2 (h.putS a b c d ++ t) 8 = c := by
    unfold Head.putS
    rw [show p16 h.id ++ p16 h.flagsW ++ p16 a ++ p16 b ++ p16 c ++ p16 d ++ t = (p16 h.id ++ p16 h.flagsW ++ p16 a ++ p16 b) ++ p16 c ++ (p16 d ++ t) by simp [ByteArray.append_assoc]]
    exact be2_at _ _ _ _ (by simp [ByteArray.size_append, p16_size]) h2.1 h2.2
  have e10 : be2 (h.putS a b c d ++ t) 10 = d := by
    unfold Head.putS
    exact be2_at _ _ _ _ (by simp [ByteArray.size_append, p16_size]) h3.1 h3.2
  refine ⟨?_, e4, e6, e8, e10, rfl⟩
  obtain ⟨_, k1, k2, k3⟩ := hk
  have b0 := bi_bd h.qr; have b1 := bi_bd h.aa; have b2 := bi_bd h.tc; have b3 := bi_bd h.rd; have b4 := bi_bd h.ra
  unfold getH
  rw [e0, e2, and15, and15, and7]
  have s0 : h.sum = 32768 * bi h.qr + 2048 * h.op + 1024 * bi h.aa + 512 * bi h.tc + 256 * bi h.rd + 128 * bi h.ra + 16 * h.z + h.rc := rfl
  rw [bitB_of _ _ _ h.qr (bitB15 _) (by omega), bitB_of _ _ _ h.aa (bitB10 _) (by omega), bitB_of _ _ _ h.tc (bitB9 _) (by omega), bitB_of _ _ _ h.rd (bitB8 _) (by omega), bitB_of _ _ _ h.ra (bitB7 _) (by omega)]
  rw [show h.sum / 2048 % 16 = h.op by omega, show h.sum / 16 % 8 = h.z by omega, show h.sum % 16 = h.rc by omega]

/-! ### Any twelve bytes -/
end Go.Proofs.Ytjklgdpffmaamaa.Hd

namespace Go.Proofs.Ytjklgdpffmaamaa.Wm
open Go.RowKit Go.PlainAid Go.Proofs.Ytjklgdpffmaamaa.Base Go.Proofs.Ytjklgdpffmaamaa.Oct Go.Proofs.Ytjklgdpffmaamaa.Nm Go.Proofs.Ytjklgdpffmaamaa.Wr Go.Proofs.Ytjklgdpffmaamaa.PCm Go.Proofs.Ytjklgdpffmaamaa.CompS Go.Proofs.Ytjklgdpffmaamaa.Pu
open Go.Proofs.YtjklgdpffmaamaaW.PrintWords (Ev bytesOf bytesOf_length LeO)
set_option linter.unusedVariables false
theorem Ev.uniq {α : Type} {g : Nat → Option α} {a b : α} (h : Ev g a) (k : Ev g b) : a = b := by
  obtain ⟨K, h⟩ := h
  obtain ⟨K', k⟩ := k
  have e := (h (max K K') (Nat.le_max_left _ _)).symm.trans (k (max K K') (Nat.le_max_right _ _))
  exact Option.some.inj e
/-! ### A name that lies uncompressed -/
theorem find_none (s : ByteArray) : ∀ (ps : List Nat) (i : Nat), findP (fun _ => none) s ps i = none
  | [], _ => rfl
  | p :: ps, i => by rw [findP]; exact find_none s ps (i + 1)
theorem outN_plain (s : ByteArray) : outN (fun _ => none) s = s := by
  unfold outN; rw [find_none]
theorem ext_cut {S d : ByteArray} {i : Nat} (h : i + d.size ≤ S.size) (he : S.extract i (i + d.size) = d) : S = S.extract 0 i ++ d ++ S.extract (i + d.size) S.size := by
  have e := ext_join S 0 i (i + d.size) (by omega) (by omega)
  have e2 := ext_join S 0 (i + d.size) S.size (by omega) h
  rw [he] at e
  rw [e, e2, ext0]
theorem lies_plain {S n : ByteArray} {i : Nat} (hn : nameB n = true) (h : i + n.size ≤ S.size) (hS : S.size ≤ 16000) (he : S.extract i (i + n.size) = n) : Lies S i n i (i + n.size) := by
  have hn2 := (name_first hn).2.1
  have z : (S.extract 0 i).size = i := by rw [ByteArray.size_extract]; omega
  have H := (put_known (S := S.extract 0 i) (s := n) (m := fun _ => none) (fun r t h => by cases h) hn (by omega)).2.1
  rw [outN_plain, ByteArray.size_append, z] at H
  have := H.more (S.extract (i + n.size) S.size)
  rw [← ext_cut h he] at this
  exact this
theorem names_1 {s nm : ByteArray} {i q : Int} (h : Ev (fun k => comp_Name.f k s i) (nm, q, 0)) (hs : nm.size ≤ 255) : Ev (fun k => comp_names.f k s i 1) (nm, q, 0) := by
  show Ev (fun k => comp_names.l0 k s i (⟨#[]⟩ : ByteArray) 1 0) _
  refine Ev.step (fun k => by rw [comp_names.l0]) (Ev.pos (by decide) (Ev.bind h ?_))
  refine Ev.pos rfl (Ev.pos (by show 0 + nm.size ≤ 9223372036854775807; omega) ?_)
  refine Ev.step (fun k => by rw [comp_names.l0]) (Ev.neg (by rw [Pu.w64 (by decide) (by decide)]; decide) (Ev.some _ fun _ => ?_))
  show some ((⟨#[]⟩ : ByteArray) ++ nm, q, (0 : Int)) = _
  rw [show (⟨#[]⟩ : ByteArray) ++ nm = nm from ByteArray.empty_append]
theorem names_2 {s nm nn : ByteArray} {i p q : Int} (h : Ev (fun k => comp_Name.f k s i) (nm, p, 0)) (h2 : Ev (fun k => comp_Name.f k s p) (nn, q, 0)) (hs : nm.size ≤ 255) (hs2 : nn.size ≤ 255) : Ev (fun k => comp_names.f k s i 2) (nm ++ nn, q, 0) := by
  show Ev (fun k => comp_names.l0 k s i (⟨#[]⟩ : ByteArray) 2 0) _
  refine Ev.step (fun k => by rw [comp_names.l0]) (Ev.pos (by decide) (Ev.bind h ?_))
  refine Ev.pos rfl (Ev.pos (by show 0 + nm.size ≤ 9223372036854775807; omega) ?_)
  have e : (⟨#[]⟩ : ByteArray) ++ nm = nm := ByteArray.empty_append
  refine Ev.step (fun k => by rw [comp_names.l0]) (Ev.pos (by rw [Pu.w64 (by decide) (by decide)]; decide) (Ev.bind h2 ?_))
  dsimp only
  rw [e]
  refine Ev.pos rfl (Ev.pos (by omega) ?_)
  exact Ev.step (fun k => by rw [comp_names.l0]) (Ev.neg (by rw [Pu.w64 (x := 0 + 1) (by decide) (by decide), Pu.w64 (by decide) (by decide)]; decide) (Ev.some _ fun _ => rfl))
/-! ### Data -/
theorem shape_0 {t : Int} (h2 : t ≠ 2) (h5 : t ≠ 5) (h12 : t ≠ 12) (h15 : t ≠ 15) (h6 : t ≠ 6) : Ev (fun k => comp_shape.f k t) (0, 0, 0) := by
  refine Ev.neg h2 (Ev.neg h5 (Ev.step (fun k => by rw [comp_shape.j0]) (Ev.neg (by simpa using h12) (Ev.neg h15 (Ev.neg h6 (Ev.now _))))))
theorem shape_1 {t : Int} (h : t = 2 ∨ t = 5 ∨ t = 12) : Ev (fun k => comp_shape.f k t) (0, 1, 0) := by
  rcases h with rfl | rfl | rfl <;> exact Ev.of (comp_shape.mono _) (k := 4) (by decide +kernel)
theorem shape_15 : Ev (fun k => comp_shape.f k 15) (2, 1, 0) := Ev.of (comp_shape.mono _) (k := 4) (by decide +kernel)
theorem shape_6 : Ev (fun k => comp_shape.f k 6) (0, 2, 20) := Ev.of (comp_shape.mono _) (k := 4) (by decide +kernel)
theorem may_eq (t : Int) (s : ByteArray) (h : s.size ≤ 9223372036854775000) : rdata_May.f t s = some (Rd.mayD t s) := by unfold rdata_May.f; rw [if_pos h]
theorem data_in {s : ByteArray} {i z t : Int} {r : ByteArray × Int} (hs : s.size ≤ 1000000) (h0 : 0 ≤ i) (h1 : 0 ≤ z) (h2 : i + z ≤ (s.size : Int)) (h : Ev (fun k => comp_Data.j0 k s i z t false) r) : Ev (fun k => comp_Data.f k s i z t) r := by
  refine Ev.neg (by omega) (Ev.neg (by omega) (Ev.neg (by omega) ?_))
  rw [Pu.w64 (x := (s.size : Int) - i) (by omega) (by omega), decide_eq_false (show ¬ z > (s.size : Int) - i by omega)]
  exact h
/-- Data of a type whose bytes are left as they are. -/
theorem data_plain {s : ByteArray} {i z : Nat} {t : Int} (hs : s.size ≤ 1000000) (h2 : i + z ≤ s.size) (hsh : Ev (fun k => comp_shape.f k t) (0, 0, 0)) (hm : Rd.mayD t (s.extract i (i + z)) = true) :
    Ev (fun k => comp_Data.f k s (i : Int) (z : Int) t) (s.extract i (i + z), 0) := by
  refine data_in hs (by omega) (by omega) (by omega) ?_
  refine Ev.step (fun k => by rw [comp_Data.j0]) (Ev.neg (by decide) ?_)
  rw [Pu.w64 (x := (i : Int) + (z : Int)) (by omega) (by omega)]
  refine Ev.pos (by omega) (Ev.pos (by omega) (Ev.pos (by omega) (Ev.bind hsh (Ev.neg (by decide) (Ev.call (may_eq _ _ ?_) ?_)))))
  · rw [ByteArray.size_extract]; omega
  rw [show ((i : Int) + (z : Int)).toNat = i + z by omega, Int.toNat_natCast, hm]
  exact Ev.pos rfl (Ev.some _ fun _ => rfl)
/-- Data with names in it. -/
theorem data_names {s ns : ByteArray} {i z a more q : Nat} {many t : Int} (hs : s.size ≤ 1000000) (hn : ns.size ≤ 600) (h2 : i + z ≤ s.size) (hsh : Ev (fun k => comp_shape.f k t) ((a : Int), many, (more : Int))) (hmn : 0 < many) (ham : a + more ≤ z)
    (hq : Ev (fun k => comp_names.f k s ((i + a : Nat) : Int) many) (ns, (q : Int), 0)) (hqz : q + more = i + z) (hm : Rd.mayD t (s.extract i (i + a) ++ ns ++ s.extract q (i + z)) = true) :
    Ev (fun k => comp_Data.f k s (i : Int) (z : Int) t) (s.extract i (i + a) ++ ns ++ s.extract q (i + z), 0) := by
  refine data_in hs (by omega) (by omega) (by omega) ?_
  refine Ev.step (fun k => by rw [comp_Data.j0]) (Ev.neg (by decide) ?_)
  rw [Pu.w64 (x := (i : Int) + (z : Int)) (by omega) (by omega)]
  refine Ev.pos (by omega) (Ev.pos (by omega) (Ev.pos (by omega) (Ev.bind hsh (Ev.pos (by show many > 0; omega) ?_))))
  dsimp only
  rw [Pu.w64 (x := (a : Int) + (more : Int)) (by omega) (by omega), Pu.w64 (x := (i : Int) + (a : Int)) (by omega) (by omega), show (i : Int) + (a : Int) = ((i + a : Nat) : Int) by omega]
  refine Ev.neg (by omega) (Ev.bind hq (Ev.pos rfl ?_))
  dsimp only
  rw [Pu.w64 (x := (i : Int) + (z : Int) - (more : Int)) (by omega) (by omega)]
  rw [show ((q : Int) != (i : Int) + (z : Int) - (more : Int)) = false by simp; omega]
  refine Ev.step (fun k => by rw [comp_Data.j1]) (Ev.neg (by decide) ?_)
  rw [Pu.w64 (x := (i : Int) + (a : Int)) (by omega) (by omega), show (i : Int) + (a : Int) = ((i + a : Nat) : Int) by omega, show (i : Int) + (z : Int) = ((i + z : Nat) : Int) by omega]
  simp only [Int.toNat_natCast]
  refine Ev.pos (by omega) (Ev.pos (by omega) (Ev.pos (by omega) (Ev.pos ?_ (Ev.pos (by omega) (Ev.pos (by omega) (Ev.pos (by omega) (Ev.pos ?_ (Ev.call (may_eq _ _ ?_) ?_))))))))
  · rw [ByteArray.size_extract]; omega
  · rw [ByteArray.size_append, ByteArray.size_extract, ByteArray.size_extract]; omega
  · rw [ByteArray.size_append, ByteArray.size_append, ByteArray.size_extract, ByteArray.size_extract]; omega
  rw [hm]
  exact Ev.pos rfl (Ev.some _ fun _ => rfl)
theorem name_plain {S n : ByteArray} {i : Nat} (hn : nameB n = true) (h : i + n.size ≤ S.size) (hS : S.size ≤ 16000) (he : S.extract i (i + n.size) = n) : Ev (fun k => comp_Name.f k S (i : Int)) (n, ((i + n.size : Nat) : Int), 0) :=
  (lies_plain hn h hS he).name (by omega) (name_first hn).2.1
theorem ext_ext (s : ByteArray) (i j a b : Nat) (h : i + b ≤ j) : (s.extract i j).extract a b = s.extract (i + a) (i + b) := by
  apply ext_of
  rw [ext_list, ext_list, ext_list]
  generalize s.data.toList = l
  rw [List.drop_take, List.drop_take, List.drop_take, List.drop_take, List.take_take, List.drop_drop, show min (b - a) (j - i - a) = i + b - (i + a) by omega]
theorem endN_name {s : ByteArray} {a : Nat} (h : 0 ≤ endN s a) : nameB (s.extract a (endN s a).toNat) = true := by
  unfold endN at h ⊢
  cases hz : zeroAt s a with
  | none => rw [hz] at h; dsimp only at h; exact absurd h (by decide)
  | some p =>
    rw [hz] at h
    dsimp only at h ⊢
    by_cases hb : nameB (s.extract a (p + 1)) = true
    · rw [if_pos hb, show ((p : Int) + 1).toNat = p + 1 by omega]; exact hb
    · rw [if_neg hb] at h; exact absurd h (by decide)
/-- Data that may be, and that lies uncompressed, is read. -/
theorem data_of {S d : ByteArray} {i : Nat} {t : Int} (hS : S.size ≤ 16000) (h : i + d.size ≤ S.size) (he : S.extract i (i + d.size) = d) (hm : Rd.mayD t d = true) : Ev (fun k => comp_Data.f k S (i : Int) (d.size : Int) t) (d, 0) := by
  have sub : ∀ a b, b ≤ d.size → S.extract (i + a) (i + b) = d.extract a b := fun a b hb => by rw [← ext_ext S i (i + d.size) a b (by omega), he]
  have hm0 := hm
  unfold Rd.mayD at hm
  by_cases c1 : t < 1
  · rw [if_pos c1] at hm; cases hm
  rw [if_neg c1] at hm
  by_cases c2 : 65535 < t
  · rw [if_pos c2] at hm; cases hm
  rw [if_neg c2] at hm
  by_cases c3 : 65535 < d.size
  · rw [if_pos c3] at hm; cases hm
  rw [if_neg c3] at hm
  by_cases k1 : t = 2 ∨ t = 5 ∨ t = 12
  · have hn : nameB d = true := by
      rcases k1 with rfl | rfl | rfl <;> simpa using hm
    have H := data_names (t := t) (s := S) (i := i) (z := d.size) (a := 0) (more := 0) (q := i + d.size) (by omega) (by have := (name_first hn).2.1; omega) h (shape_1 k1) (by decide) (by omega) (names_1 (name_plain hn h hS he) (name_first hn).2.1) (by omega)
    have e : S.extract i (i + 0) ++ d ++ S.extract (i + d.size) (i + d.size) = d := by simp
    rw [e] at H
    exact H hm0
  · by_cases k2 : t = 15
    · subst k2
      have hn : 2 ≤ d.size ∧ nameB (d.extract 2 d.size) = true := by simpa using hm
      have hz : (d.extract 2 d.size).size = d.size - 2 := by rw [ByteArray.size_extract]; omega
      have hb := (name_first hn.2).2.1
      have hp := name_plain (S := S) (i := i + 2) hn.2 (by omega) hS (by rw [hz, show i + 2 + (d.size - 2) = i + d.size by omega]; exact sub 2 d.size (Nat.le_refl _))
      rw [hz, show i + 2 + (d.size - 2) = i + d.size by omega] at hp
      have H := data_names (t := 15) (s := S) (i := i) (z := d.size) (a := 2) (more := 0) (q := i + d.size) (by omega) (by omega) h shape_15 (by decide) (by omega) (names_1 hp hb) (by omega)
      rw [show S.extract i (i + 2) = d.extract 0 2 from sub 0 2 hn.1, show S.extract (i + d.size) (i + d.size) = ⟨#[]⟩ by simp; rfl, ext_join d 0 2 d.size (by omega) hn.1, ext0, show d ++ (⟨#[]⟩ : ByteArray) = d from ByteArray.append_empty] at H
      exact H hm0
    · by_cases k3 : t = 6
      · subst k3
        have hn : Rd.soaB d = true := by simpa using hm
        unfold Rd.soaB at hn
        simp only [Bool.and_eq_true, decide_eq_true_eq] at hn
        obtain ⟨a0, a1, a2⟩ := hn
        obtain ⟨p, hp⟩ : ∃ p : Nat, endN d 0 = (p : Int) := ⟨(endN d 0).toNat, by omega⟩
        have n1 := endN_name a0
        have b1 := Rd.endN_bd a0
        rw [hp, Int.toNat_natCast] at a1 a2 n1
        rw [hp] at b1
        obtain ⟨q, hq⟩ : ∃ q : Nat, endN d p = (q : Int) := ⟨(endN d p).toNat, by omega⟩
        have n2 := endN_name a1
        have b2 := Rd.endN_bd a1
        rw [hq, Int.toNat_natCast] at n2
        rw [hq] at b2 a2
        have z1 : (d.extract 0 p).size = p := by rw [ByteArray.size_extract]; omega
        have z2 : (d.extract p q).size = q - p := by rw [ByteArray.size_extract]; omega
        have f1 := (name_first n1).2.1
        have f2 := (name_first n2).2.1
        have e1 := name_plain (S := S) (i := i) n1 (by omega) hS (by rw [z1]; exact sub 0 p (by omega))
        have e2 := name_plain (S := S) (i := i + p) n2 (by omega) hS (by rw [z2, show i + p + (q - p) = i + q by omega]; exact sub p q (by omega))
        rw [z1] at e1
        rw [z2, show i + p + (q - p) = i + q by omega] at e2
        have H := data_names (t := 6) (s := S) (i := i) (z := d.size) (a := 0) (more := 20) (q := i + q) (by omega) (by rw [ByteArray.size_append]; omega) h shape_6 (by decide) (by omega) (names_2 e1 e2 f1 f2) (by omega)
        rw [show S.extract i (i + 0) = ⟨#[]⟩ by simp; rfl, sub q d.size (Nat.le_refl _), show (⟨#[]⟩ : ByteArray) ++ (d.extract 0 p ++ d.extract p q) = d.extract 0 p ++ d.extract p q from ByteArray.empty_append, ext_join d 0 p q (by omega) (by omega), ext_join d 0 q d.size (by omega) (by omega), ext0] at H
        exact H hm0
      · have H := data_plain (t := t) (s := S) (i := i) (z := d.size) (by omega) h (shape_0 (fun e => k1 (.inl e)) (fun e => k1 (.inr (.inl e))) (fun e => k1 (.inr (.inr e))) k2 k3)
        rw [he] at H
        exact H hm0
/-! ### A question, a record -/
theorem num16_ok {s : ByteArray} {i : Nat} (h : i + 2 ≤ s.size) : numV ⟨(i : Int), false⟩ (u16V s (i : Int)) = (be2 s i, ⟨((i + 2 : Nat) : Int), false⟩) := by
  unfold numV u16V
  rw [if_pos (show 0 ≤ (i : Int) ∧ (i : Int) + 2 ≤ (s.size : Int) by omega), Int.toNat_natCast]
  simp
theorem num32_ok {s : ByteArray} {i : Nat} (h : i + 4 ≤ s.size) : numV ⟨(i : Int), false⟩ (u32V s (i : Int)) = (be4 s i, ⟨((i + 4 : Nat) : Int), false⟩) := by
  unfold numV u32V
  rw [if_pos (show 0 ≤ (i : Int) ∧ (i : Int) + 4 ≤ (s.size : Int) by omega), Int.toNat_natCast]
  simp
theorem quest_ev {S n : ByteArray} {i nx : Nat} (h : Ev (fun k => comp_Name.f k S (i : Int)) (n, (nx : Int), 0)) (hx : nx + 4 ≤ S.size) : Ev (fun k => questV k S ⟨(i : Int), false⟩) (⟨n, be2 S nx, be2 S (nx + 2)⟩, ⟨((nx + 4 : Nat) : Int), be2 S nx == 0⟩) := by
  unfold questV
  refine Ev.bind h ?_
  refine Ev.neg (by simp) (Ev.some _ fun _ => ?_)
  dsimp only
  rw [num16_ok (by omega)]
  dsimp only
  rw [num16_ok (i := nx + 2) (by omega)]
  simp
  omega
theorem rec_ev {S n d : ByteArray} {i nx z : Nat} (h : Ev (fun k => comp_Name.f k S (i : Int)) (n, (nx : Int), 0)) (ht : be2 S nx ≠ 0) (hS : S.size ≤ 16000) (hz : be2 S (nx + 8) = (z : Int)) (hx : nx + 10 + z ≤ S.size) (hd : Ev (fun k => comp_Data.f k S ((nx + 10 : Nat) : Int) (z : Int) (be2 S nx)) (d, 0)) :
    Ev (fun k => recV k S ⟨(i : Int), false⟩) (⟨n, be2 S nx, be2 S (nx + 2), be4 S (nx + 4), d⟩, ⟨((nx + 10 + z : Nat) : Int), false⟩) := by
  unfold recV
  have hq := quest_ev h (by omega)
  rw [show (be2 S nx == 0) = false by simpa using ht] at hq
  have e1 : recN1 S (⟨n, be2 S nx, be2 S (nx + 2)⟩, ⟨((nx + 4 : Nat) : Int), false⟩) = (be4 S (nx + 4), ⟨((nx + 4 + 4 : Nat) : Int), false⟩) := num32_ok (by omega)
  have e2 : recN2 S (⟨n, be2 S nx, be2 S (nx + 2)⟩, ⟨((nx + 4 : Nat) : Int), false⟩) = ((z : Int), ⟨((nx + 10 : Nat) : Int), false⟩) := by
    unfold recN2
    rw [e1]
    dsimp only
    rw [num16_ok (i := nx + 4 + 4) (by omega), hz]
  refine Ev.bind hq ?_
  simp only [e1, e2]
  refine Ev.bind hd ?_
  refine Ev.neg (by simp) (Ev.some _ fun _ => ?_)
  rw [Pu.w64 (by omega) (by omega)]
  congr 4
end Go.Proofs.Ytjklgdpffmaamaa.Wm

namespace Go.Proofs.Ytjklgdpffmaamaa.Wm
open Go.RowKit Go.PlainAid Go.Proofs.Ytjklgdpffmaamaa.Base Go.Proofs.Ytjklgdpffmaamaa.Oct Go.Proofs.Ytjklgdpffmaamaa.Nm Go.Proofs.Ytjklgdpffmaamaa.Wr Go.Proofs.Ytjklgdpffmaamaa.PCm Go.Proofs.Ytjklgdpffmaamaa.CompS Go.Proofs.Ytjklgdpffmaamaa.Pu
open Go.Proofs.YtjklgdpffmaamaaW.PrintWords (Ev bytesOf bytesOf_length LeO)
set_option linter.unusedVariables false
/-! ### The writer's state -/
theorem raw_ok {st : St} {s : ByteArray} (h : (rawSt st s).lg = false) : st.lg = false ∧ st.S.size + s.size ≤ 4096 ∧ rawSt st s = ⟨st.S ++ s, st.m, false⟩ := by
  unfold rawSt at h ⊢
  by_cases c : 4096 < st.S.size + s.size
  · rw [if_pos c] at h; cases h
  · rw [if_neg c] at h ⊢
    have h : st.lg = false := h
    exact ⟨h, by omega, by rw [h]⟩
theorem name_ok {st : St} {n : ByteArray} (h : (nameSt st n).lg = false) : nameB n = true ∧ st.lg = false ∧ st.S.size + (outN st.m n).size ≤ 4096 ∧ nameSt st n = ⟨st.S ++ outN st.m n, putN st.m n st.S.size, false⟩ := by
  unfold nameSt at h ⊢
  by_cases b : nameB n = true
  · rw [if_pos b] at h ⊢
    by_cases c : 4096 < st.S.size + (outN st.m n).size
    · rw [if_pos c] at h; cases h
    · rw [if_neg c] at h ⊢
      have h : st.lg = false := h
      exact ⟨b, h, by omega, by rw [h]⟩
  · rw [if_neg b] at h; cases h
/-- All is well with the writer: what it keeps lies where it says. -/
structure Good (st : St) : Prop where
  known : Known st.S st.m
  size : st.S.size ≤ 4096
  lg : st.lg = false
theorem known_more {S : ByteArray} {m : ByteArray → Option Int} (h : Known S m) (T : ByteArray) : Known (S ++ T) m := fun r t hr => by
  obtain ⟨i, nx, e, hi, hl⟩ := h r t hr
  exact ⟨i, nx, e, hi, hl.more T⟩
theorem Good.raw {st : St} (H : st.lg = false → Good st) {s : ByteArray} (h : (rawSt st s).lg = false) : Good (rawSt st s) := by
  obtain ⟨h1, h2, h3⟩ := raw_ok h
  rw [h3]
  exact ⟨known_more (H h1).known s, by show (st.S ++ s).size ≤ 4096; rw [ByteArray.size_append]; exact h2, rfl⟩
theorem name_size {n : ByteArray} (h : nameB n = true) : n.size ≤ 255 := (name_first h).2.1
theorem Good.name {st : St} (H : st.lg = false → Good st) {n : ByteArray} (h : (nameSt st n).lg = false) : Good (nameSt st n) := by
  obtain ⟨h0, h1, h2, h3⟩ := name_ok h
  have hn := name_size h0
  have hz := (H h1).size
  rw [h3]
  exact ⟨(put_known (H h1).known h0 (by omega)).2.2, by show (st.S ++ _).size ≤ 4096; rw [ByteArray.size_append]; exact h2, rfl⟩
/-! ### Numbers -/
theorem be2_mid (a b : ByteArray) (x : Int) (i : Nat) (hi : i = a.size) (h0 : 0 ≤ x) (h1 : x ≤ 65535) : be2 (a ++ p16 x ++ b) i = x := Hd.be2_at a b x i hi.symm h0 h1
theorem be4_left (s t : ByteArray) (i : Nat) (h : i + 4 ≤ s.size) : be4 (s ++ t) i = be4 s i := by
  unfold be4
  rw [bt_append_left _ _ _ (by omega), bt_append_left _ _ _ (by omega), bt_append_left _ _ _ (by omega), bt_append_left _ _ _ (by omega)]
theorem be4_right (s t : ByteArray) (i : Nat) (h : s.size ≤ i) : be4 (s ++ t) i = be4 t (i - s.size) := by
  unfold be4
  rw [bt_append_right _ _ _ h, bt_append_right _ _ _ (by omega), bt_append_right _ _ _ (by omega), bt_append_right _ _ _ (by omega)]
  rw [show i + 1 - s.size = i - s.size + 1 by omega, show i + 2 - s.size = i - s.size + 2 by omega, show i + 3 - s.size = i - s.size + 3 by omega]
theorem be4_p32 (x : Int) (h0 : 0 ≤ x) (h1 : x ≤ 4294967295) : be4 (p32 x) 0 = x := by
  unfold be4 p32
  rw [bt_nums _ 0 ((x / 16777216) % 256) rfl (by omega) (by omega), bt_nums _ 1 ((x / 65536) % 256) rfl (by omega) (by omega), bt_nums _ 2 ((x / 256) % 256) rfl (by omega) (by omega), bt_nums _ 3 (x % 256) rfl (by omega) (by omega)]
  omega
theorem be4_mid (a b : ByteArray) (x : Int) (i : Nat) (hi : i = a.size) (h0 : 0 ≤ x) (h1 : x ≤ 4294967295) : be4 (a ++ p32 x ++ b) i = x := by
  subst hi
  rw [ByteArray.append_assoc, be4_right _ _ _ (Nat.le_refl _), Nat.sub_self, be4_left _ _ _ (by rw [p32_size]; omega), be4_p32 x h0 h1]
theorem inB_iff {x lo hi : Int} : inB x lo hi = true ↔ lo ≤ x ∧ x ≤ hi := by unfold inB; simp
/-! ### A question -/
theorem qSt_ok {st : St} {n : ByteArray} {t c : Int} (h : (qSt st n t c).lg = false) : nameB n = true ∧ st.lg = false ∧ st.S.size + (outN st.m n).size + 4 ≤ 4096 ∧ qSt st n t c = ⟨st.S ++ outN st.m n ++ (p16 t ++ p16 c), putN st.m n st.S.size, false⟩ := by
  unfold qSt at h ⊢
  obtain ⟨h1, h2, h3⟩ := raw_ok h
  obtain ⟨k0, k1, k2, k3⟩ := name_ok h1
  rw [k3] at h2 h3 ⊢
  have z : (p16 t ++ p16 c).size = 4 := by rw [ByteArray.size_append, p16_size, p16_size]
  have h2 : (st.S ++ outN st.m n).size + (p16 t ++ p16 c).size ≤ 4096 := h2
  rw [ByteArray.size_append, z] at h2
  exact ⟨k0, k1, by omega, h3⟩
theorem Good.q {st : St} (H : st.lg = false → Good st) {n : ByteArray} {t c : Int} (h : (qSt st n t c).lg = false) : Good (qSt st n t c) := by
  unfold qSt at h ⊢
  exact Good.raw (fun k => Good.name H k) h
/-- Behind a name that was put: it is read there, in whatever goes on. -/
theorem name_read {st : St} (H : Good st) {n U : ByteArray} (hn : nameB n = true) (hz : (st.S ++ outN st.m n ++ U).size ≤ 16000) : Ev (fun k => comp_Name.f k (st.S ++ outN st.m n ++ U) (st.S.size : Int)) (n, ((st.S.size + (outN st.m n).size : Nat) : Int), 0) := by
  have hs := name_size hn
  have hS := H.size
  have L := (put_known H.known hn (by omega)).2.1.more U
  rw [ByteArray.size_append] at L
  exact L.name (by omega) hs
theorem q_read {st : St} (H : Good st) {q : Qn} (hm : qMay q = true) (h : (qStep st q).lg = false) (U : ByteArray) (hz : ((qStep st q).S ++ U).size ≤ 16000) :
    Ev (fun k => questV k ((qStep st q).S ++ U) ⟨(st.S.size : Int), false⟩) (q, ⟨((qStep st q).S.size : Int), false⟩) := by
  obtain ⟨n, t, c⟩ := q
  unfold qMay at hm
  simp only [Bool.and_eq_true, inB_iff] at hm
  obtain ⟨⟨hn, t1, t2⟩, c1, c2⟩ := hm
  obtain ⟨_, _, h2, h3⟩ := qSt_ok h
  have e3 : qStep st ⟨n, t, c⟩ = ⟨st.S ++ outN st.m n ++ (p16 t ++ p16 c), putN st.m n st.S.size, false⟩ := h3
  rw [e3] at hz ⊢
  dsimp only at hz ⊢
  have eS : st.S ++ outN st.m n ++ (p16 t ++ p16 c) ++ U = st.S ++ outN st.m n ++ (p16 t ++ (p16 c ++ U)) := by simp only [ByteArray.append_assoc]
  have zS : (st.S ++ outN st.m n ++ (p16 t ++ p16 c)).size = st.S.size + (outN st.m n).size + 4 := by simp only [ByteArray.size_append, p16_size]
  have zT : (st.S ++ outN st.m n ++ (p16 t ++ p16 c) ++ U).size = st.S.size + (outN st.m n).size + 4 + U.size := by rw [ByteArray.size_append, zS]
  have hr := name_read H (n := n) (U := p16 t ++ (p16 c ++ U)) hn (by rw [← eS]; exact hz)
  rw [← eS] at hr
  have E := quest_ev hr (by rw [zT]; omega)
  have b1 : be2 (st.S ++ outN st.m n ++ (p16 t ++ p16 c) ++ U) (st.S.size + (outN st.m n).size) = t := by
    rw [show st.S ++ outN st.m n ++ (p16 t ++ p16 c) ++ U = (st.S ++ outN st.m n) ++ p16 t ++ (p16 c ++ U) by simp only [ByteArray.append_assoc]]
    exact be2_mid _ _ _ _ (by rw [ByteArray.size_append]) (by omega) t2
  have b2 : be2 (st.S ++ outN st.m n ++ (p16 t ++ p16 c) ++ U) (st.S.size + (outN st.m n).size + 2) = c := by
    rw [show st.S ++ outN st.m n ++ (p16 t ++ p16 c) ++ U = (st.S ++ outN st.m n ++ p16 t) ++ p16 c ++ U by simp only [ByteArray.append_assoc]]
    exact be2_mid _ _ _ _ (by simp only [ByteArray.size_append, p16_size]) c1 c2
  rw [b1, b2, show (t == 0) = false by simp; omega] at E
  rw [zS]
  exact E
/-! ### A record -/
theorem rSt_ok {st : St} {r : Rr} (h : (rSt st r).lg = false) : nameB r.name = true ∧ st.lg = false ∧ st.S.size + (outN st.m r.name).size + 10 + r.data.size ≤ 4096 ∧
    rSt st r = ⟨st.S ++ outN st.m r.name ++ (p16 r.type ++ p16 r.cls) ++ (p32 r.ttl ++ p16 (r.data.size : Int) ++ r.data), putN st.m r.name st.S.size, false⟩ := by
  unfold rSt at h ⊢
  obtain ⟨h1, h2, h3⟩ := raw_ok h
  obtain ⟨k0, k1, k2, k3⟩ := qSt_ok h1
  rw [k3] at h2 h3 ⊢
  have z : (p32 r.ttl ++ p16 (r.data.size : Int) ++ r.data).size = 6 + r.data.size := by simp only [ByteArray.size_append, p16_size, p32_size]
  have h2 : (st.S ++ outN st.m r.name ++ (p16 r.type ++ p16 r.cls)).size + (p32 r.ttl ++ p16 (r.data.size : Int) ++ r.data).size ≤ 4096 := h2
  rw [z] at h2
  simp only [ByteArray.size_append, p16_size] at h2
  exact ⟨k0, k1, by omega, h3⟩
theorem Good.r {st : St} (H : st.lg = false → Good st) {r : Rr} (h : (rSt st r).lg = false) : Good (rSt st r) := by
  unfold rSt at h ⊢
  exact Good.raw (fun k => Good.q H k) h
theorem r_read {st : St} (H : Good st) {r : Rr} (hm : rMay r = true) (h : (rSt st r).lg = false) (U : ByteArray) (hz : ((rSt st r).S ++ U).size ≤ 16000) :
    Ev (fun k => recV k ((rSt st r).S ++ U) ⟨(st.S.size : Int), false⟩) (r, ⟨((rSt st r).S.size : Int), false⟩) := by
  obtain ⟨n, t, c, l, d⟩ := r
  unfold rMay at hm
  simp only [Bool.and_eq_true, inB_iff] at hm
  obtain ⟨⟨⟨⟨hn, t1, t2⟩, c1, c2⟩, l1, l2⟩, hd⟩ := hm
  obtain ⟨_, _, h2, h3⟩ := rSt_ok h
  dsimp only at h2 h3 hn hd t1 t2 c1 c2 l1 l2
  rw [h3] at hz ⊢
  dsimp only at hz ⊢
  generalize hT : st.S ++ outN st.m n ++ (p16 t ++ p16 c) ++ (p32 l ++ p16 (d.size : Int) ++ d) ++ U = T at hz ⊢
  have zA : (st.S ++ outN st.m n).size = st.S.size + (outN st.m n).size := ByteArray.size_append
  have zS : (st.S ++ outN st.m n ++ (p16 t ++ p16 c) ++ (p32 l ++ p16 (d.size : Int) ++ d)).size = st.S.size + (outN st.m n).size + 10 + d.size := by simp only [ByteArray.size_append, p16_size, p32_size]; omega
  have zT : T.size = st.S.size + (outN st.m n).size + 10 + d.size + U.size := by rw [← hT, ByteArray.size_append, zS]
  have hr := name_read H (n := n) (U := p16 t ++ (p16 c ++ (p32 l ++ (p16 (d.size : Int) ++ (d ++ U))))) hn
  rw [show st.S ++ outN st.m n ++ (p16 t ++ (p16 c ++ (p32 l ++ (p16 (d.size : Int) ++ (d ++ U))))) = T by rw [← hT]; simp only [ByteArray.append_assoc]] at hr
  have b1 : be2 T (st.S.size + (outN st.m n).size) = t := by
    rw [show T = (st.S ++ outN st.m n) ++ p16 t ++ (p16 c ++ (p32 l ++ (p16 (d.size : Int) ++ (d ++ U)))) by rw [← hT]; simp only [ByteArray.append_assoc]]
    exact be2_mid _ _ _ _ (by rw [ByteArray.size_append]) (by omega) t2
  have b2 : be2 T (st.S.size + (outN st.m n).size + 2) = c := by
    rw [show T = (st.S ++ outN st.m n ++ p16 t) ++ p16 c ++ (p32 l ++ (p16 (d.size : Int) ++ (d ++ U))) by rw [← hT]; simp only [ByteArray.append_assoc]]
    exact be2_mid _ _ _ _ (by simp only [ByteArray.size_append, p16_size]) c1 c2
  have b3 : be4 T (st.S.size + (outN st.m n).size + 4) = l := by
    rw [show T = (st.S ++ outN st.m n ++ p16 t ++ p16 c) ++ p32 l ++ (p16 (d.size : Int) ++ (d ++ U)) by rw [← hT]; simp only [ByteArray.append_assoc]]
    exact be4_mid _ _ _ _ (by simp only [ByteArray.size_append, p16_size]) l1 l2
  have b4 : be2 T (st.S.size + (outN st.m n).size + 8) = (d.size : Int) := by
    rw [show T = (st.S ++ outN st.m n ++ p16 t ++ p16 c ++ p32 l) ++ p16 (d.size : Int) ++ (d ++ U) by rw [← hT]; simp only [ByteArray.append_assoc]]
    exact be2_mid _ _ _ _ (by simp only [ByteArray.size_append, p16_size, p32_size]) (by omega) (by omega)
  have hD : T.extract (st.S.size + (outN st.m n).size + 10) (st.S.size + (outN st.m n).size + 10 + d.size) = d := by
    rw [show T = (st.S ++ outN st.m n ++ p16 t ++ p16 c ++ p32 l ++ p16 (d.size : Int)) ++ (d ++ U) by rw [← hT]; simp only [ByteArray.append_assoc]]
    have zz : (st.S ++ outN st.m n ++ p16 t ++ p16 c ++ p32 l ++ p16 (d.size : Int)).size = st.S.size + (outN st.m n).size + 10 := by simp only [ByteArray.size_append, p16_size, p32_size]
    rw [← zz, ext_right, ext_left _ _ _ _ (Nat.le_refl _), ext0]
  have E := rec_ev (S := T) (i := st.S.size) (nx := st.S.size + (outN st.m n).size) (z := d.size) (d := d) (hr hz) (by rw [b1]; omega) hz b4 (by rw [zT]; omega) (by rw [b1]; exact data_of hz (by rw [zT]; omega) hD hd)
  rw [b1, b2, b3] at E
  rw [zS]
  exact E
/-! ### Lists -/
theorem foldQ_lg : ∀ (qs : List Qn) (st : St), (qs.foldl qStep st).lg = false → st.lg = false
  | [], _, h => h
  | q :: qs, st, h => (qSt_ok (foldQ_lg qs _ h)).2.1
theorem foldR_lg : ∀ (rs : List Rr) (st : St), (rs.foldl rSt st).lg = false → st.lg = false
  | [], _, h => h
  | r :: rs, st, h => (rSt_ok (foldR_lg rs _ h)).2.1
theorem foldQ_good : ∀ (qs : List Qn) (st : St), (st.lg = false → Good st) → (qs.foldl qStep st).lg = false → Good (qs.foldl qStep st)
  | [], _, H, h => H h
  | q :: qs, st, H, h => foldQ_good qs _ (fun k => Good.q H k) h
theorem foldR_good : ∀ (rs : List Rr) (st : St), (st.lg = false → Good st) → (rs.foldl rSt st).lg = false → Good (rs.foldl rSt st)
  | [], _, H, h => H h
  | r :: rs, st, H, h => foldR_good rs _ (fun k => Good.r H k) h
theorem foldQ_more : ∀ (qs : List Qn) (st : St), (qs.foldl qStep st).lg = false → ∃ V, (qs.foldl qStep st).S = st.S ++ V
  | [], st, _ => ⟨⟨#[]⟩, ByteArray.append_empty.symm⟩
  | q :: qs, st, h => by
    obtain ⟨V, hV⟩ := foldQ_more qs _ h
    obtain ⟨_, _, _, e⟩ := qSt_ok (foldQ_lg qs _ h)
    have e : qStep st q = _ := e
    refine ⟨outN st.m q.name ++ (p16 q.type ++ p16 q.cls) ++ V, ?_⟩
    rw [List.foldl_cons, hV, e]
    simp only [ByteArray.append_assoc]
theorem foldR_more : ∀ (rs : List Rr) (st : St), (rs.foldl rSt st).lg = false → ∃ V, (rs.foldl rSt st).S = st.S ++ V
  | [], st, _ => ⟨⟨#[]⟩, ByteArray.append_empty.symm⟩
  | r :: rs, st, h => by
    obtain ⟨V, hV⟩ := foldR_more rs _ h
    obtain ⟨_, _, _, e⟩ := rSt_ok (foldR_lg rs _ h)
    refine ⟨outN st.m r.name ++ (p16 r.type ++ p16 r.cls) ++ (p32 r.ttl ++ p16 (r.data.size : Int) ++ r.data) ++ V, ?_⟩
    rw [List.foldl_cons, hV, e]
    simp only [ByteArray.append_assoc]
theorem loopQ_read (T : ByteArray) (hT : T.size ≤ 16000) : ∀ (qs : List Qn) (st : St) (acc : List Qn), Good st → (∀ q ∈ qs, qMay q = true) → (qs.foldl qStep st).lg = false → (∃ U, T = (qs.foldl qStep st).S ++ U) →
    Ev (fun k => loopQ k T qs.length ⟨(st.S.size : Int), false⟩ acc) (acc ++ qs, ⟨((qs.foldl qStep st).S.size : Int), false⟩)
  | [], st, acc, _, _, _, _ => by simpa [loopQ] using Ev.now (acc, (⟨(st.S.size : Int), false⟩ : Rs))
  | q :: qs, st, acc, H, hm, h, hU => by
    have h1 := foldQ_lg qs _ h
    obtain ⟨V, hV⟩ := foldQ_more qs _ h
    obtain ⟨U, hU⟩ := hU
    have eT : T = (qStep st q).S ++ (V ++ U) := by rw [hU, List.foldl_cons, hV, ByteArray.append_assoc]
    have E := q_read H (hm q (List.mem_cons_self ..)) h1 (V ++ U) (by rw [← eT]; exact hT)
    rw [← eT] at E
    show Ev (fun k => if (false : Bool) = true then _ else _) _
    refine Ev.neg (by decide) (Ev.bind E ?_)
    have := loopQ_read T hT qs (qStep st q) (acc ++ [q]) (Good.q (fun _ => H) h1) (fun x hx => hm x (List.mem_cons_of_mem _ hx)) h ⟨U, hU⟩
    rw [List.append_assoc, List.singleton_append] at this
    exact this
theorem loopR_read (T : ByteArray) (hT : T.size ≤ 16000) : ∀ (rs : List Rr) (st : St) (acc : List Rr), Good st → (∀ r ∈ rs, rMay r = true) → (rs.foldl rSt st).lg = false → (∃ U, T = (rs.foldl rSt st).S ++ U) →
    Ev (fun k => loopR k T rs.length ⟨(st.S.size : Int), false⟩ acc) (acc ++ rs, ⟨((rs.foldl rSt st).S.size : Int), false⟩)
  | [], st, acc, _, _, _, _ => by simpa [loopR] using Ev.now (acc, (⟨(st.S.size : Int), false⟩ : Rs))
  | r :: rs, st, acc, H, hm, h, hU => by
    have h1 := foldR_lg rs _ h
    obtain ⟨V, hV⟩ := foldR_more rs _ h
    obtain ⟨U, hU⟩ := hU
    have eT : T = (rSt st r).S ++ (V ++ U) := by rw [hU, List.foldl_cons, hV, ByteArray.append_assoc]
    have E := r_read H (hm r (List.mem_cons_self ..)) h1 (V ++ U) (by rw [← eT]; exact hT)
    rw [← eT] at E
    show Ev (fun k => if (false : Bool) = true then _ else _) _
    refine Ev.neg (by decide) (Ev.bind E ?_)
    have := loopR_read T hT rs (rSt st r) (acc ++ [r]) (Good.r (fun _ => H) h1) (fun x hx => hm x (List.mem_cons_of_mem _ hx)) h ⟨U, hU⟩
    rw [List.append_assoc, List.singleton_append] at this
    exact this
theorem listQ_read {T : ByteArray} (hT : T.size ≤ 16000) {qs : List Qn} {st : St} (hl : qs.length ≤ 64) (H : Good st) (hm : ∀ q ∈ qs, qMay q = true) (h : (qs.foldl qStep st).lg = false) (hU : ∃ U, T = (qs.foldl qStep st).S ++ U) :
    Ev (fun k => listQ k T qs.length ⟨(st.S.size : Int), false⟩) (qs, ⟨((qs.foldl qStep st).S.size : Int), false⟩) := by
  unfold listQ
  rw [show (false || decide (64 < qs.length)) = false by simp; omega]
  exact loopQ_read T hT qs st [] H hm h hU
theorem listR_read {T : ByteArray} (hT : T.size ≤ 16000) {rs : List Rr} {st : St} (hl : rs.length ≤ 64) (H : Good st) (hm : ∀ r ∈ rs, rMay r = true) (h : (rs.foldl rSt st).lg = false) (hU : ∃ U, T = (rs.foldl rSt st).S ++ U) :
    Ev (fun k => listR k T rs.length ⟨(st.S.size : Int), false⟩) (rs, ⟨((rs.foldl rSt st).S.size : Int), false⟩) := by
  unfold listR
  rw [show (false || decide (64 < rs.length)) = false by simp; omega]
  exact loopR_read T hT rs st [] H hm h hU
end Go.Proofs.Ytjklgdpffmaamaa.Wm

namespace Go.Proofs.Ytjklgdpffmaamaa.Wm
open Go.RowKit Go.PlainAid Go.Proofs.Ytjklgdpffmaamaa.Base Go.Proofs.Ytjklgdpffmaamaa.Oct Go.Proofs.Ytjklgdpffmaamaa.Nm Go.Proofs.Ytjklgdpffmaamaa.Wr Go.Proofs.Ytjklgdpffmaamaa.PCm Go.Proofs.Ytjklgdpffmaamaa.CompS Go.Proofs.Ytjklgdpffmaamaa.Pu
open Go.Proofs.YtjklgdpffmaamaaW.PrintWords (Ev bytesOf bytesOf_length LeO)
set_option linter.unusedVariables false
theorem st0_ok {hS : ByteArray} (h : hS.size = 12) : st0 hS = ⟨hS, fun _ => none, false⟩ := by
  unfold st0 rawSt
  rw [if_neg (by show ¬ 4096 < 0 + hS.size; omega)]
  rw [show (⟨#[]⟩ : ByteArray) ++ hS = hS from ByteArray.empty_append]
theorem st0_good {hS : ByteArray} (h : hS.size = 12) : Good (st0 hS) := by
  rw [st0_ok h]
  exact ⟨(fun r t k => by cases k), by show hS.size ≤ 4096; omega, rfl⟩
theorem putOk_parts {m : MsgV} (h : putOk m = true) : hOk m = true ∧ hStr m = m.h.putS m.qs.length m.an.length m.ns.length m.ar.length ∧ (m.qs.length ≤ 64 ∧ m.an.length ≤ 64 ∧ m.ns.length ≤ 64 ∧ m.ar.length ≤ 64) ∧ (∀ q ∈ m.qs, qMay q = true) ∧ (∀ r ∈ m.an, rMay r = true) ∧ (∀ r ∈ m.ns, rMay r = true) ∧ (∀ r ∈ m.ar, rMay r = true) := by
  unfold putOk at h
  simp only [Bool.and_eq_true] at h
  obtain ⟨h0, h1⟩ := h
  have hl := fits_len h1
  unfold fitsB at h1
  simp only [Bool.and_eq_true, List.all_eq_true] at h1
  obtain ⟨⟨⟨⟨_, a⟩, _, b⟩, _, c⟩, _, d⟩ := h1
  refine ⟨h0, ?_, hl, a, b, c, d⟩
  unfold hStr Hd.wroteS
  exact if_pos h0
structure Steps (m : MsgV) where
  g0 : Good (st0 (hStr m))
  gq : Good (m.qs.foldl qStep (st0 (hStr m)))
  ga : Good (m.an.foldl rSt (m.qs.foldl qStep (st0 (hStr m))))
  gn : Good (m.ns.foldl rSt (m.an.foldl rSt (m.qs.foldl qStep (st0 (hStr m)))))
  gr : Good (putEnd m)
theorem steps {m : MsgV} (hok : putOk m = true) (hl : (putEnd m).lg = false) : Steps m := by
  obtain ⟨h0, hs, _⟩ := putOk_parts hok
  have z : (hStr m).size = 12 := by rw [hs, Hd.putS_size]
  have l3 := foldR_lg m.ar _ hl
  have l2 := foldR_lg m.ns _ l3
  have l1 := foldR_lg m.an _ l2
  have G0 := st0_good z
  have G1 := foldQ_good m.qs _ (fun _ => G0) l1
  have G2 := foldR_good m.an _ (fun _ => G1) l2
  have G3 := foldR_good m.ns _ (fun _ => G2) l3
  exact ⟨G0, G1, G2, G3, foldR_good m.ar _ (fun _ => G3) hl⟩
/-- Reading what was written, whatever goes on behind it. -/
theorem get_put {m : MsgV} (hok : putOk m = true) (hl : (putEnd m).lg = false) (U : ByteArray) (hz : ((putEnd m).S ++ U).size ≤ 4096) :
    Ev (fun k => getV k ((putEnd m).S ++ U)) (if U.size = 0 then ⟨m.h, m.qs, m.an, m.ns, m.ar, 0⟩ else got0 700) := by
  obtain ⟨h0, hs, ⟨n1, n2, n3, n4⟩, q1, q2, q3, q4⟩ := putOk_parts hok
  have z : (hStr m).size = 12 := by rw [hs, Hd.putS_size]
  obtain ⟨G0, G1, G2, G3, G4⟩ := steps hok hl
  obtain ⟨V1, e1⟩ := foldQ_more m.qs (st0 (hStr m)) G1.lg
  obtain ⟨V2, e2⟩ := foldR_more m.an _ G2.lg
  obtain ⟨V3, e3⟩ := foldR_more m.ns _ G3.lg
  obtain ⟨V4, e4⟩ := foldR_more m.ar _ G4.lg
  have e4 : (putEnd m).S = (m.ns.foldl rSt (m.an.foldl rSt (m.qs.foldl qStep (st0 (hStr m))))).S ++ V4 := e4
  have s0 : (st0 (hStr m)).S = hStr m := by rw [st0_ok z]
  rw [s0] at e1
  generalize hT : (putEnd m).S ++ U = T at hz ⊢
  have eT : T = m.h.putS m.qs.length m.an.length m.ns.length m.ar.length ++ (V1 ++ (V2 ++ (V3 ++ (V4 ++ U)))) := by
    rw [← hT, e4, e3, e2, e1, hs]; simp only [ByteArray.append_assoc]
  have zT : 12 ≤ T.size := by rw [eT, ByteArray.size_append, Hd.putS_size]; omega
  obtain ⟨b0, b4, b6, b8, b10, _⟩ := Hd.back m.h _ _ _ _ (V1 ++ (V2 ++ (V3 ++ (V4 ++ U)))) h0
  rw [← eT, Hd.gotH_yes zT] at b0
  rw [← eT, Hd.gotC_yes zT] at b4 b6 b8 b10
  have zU : T.size = (putEnd m).S.size + U.size := by rw [← hT, ByteArray.size_append]
  unfold getV
  refine Ev.neg (by omega) (Ev.neg (by omega) ?_)
  rw [b4, b6, b8, b10]
  simp only [Int.toNat_natCast]
  have c1 : ∃ X, T = (m.qs.foldl qStep (st0 (hStr m))).S ++ X := ⟨V2 ++ (V3 ++ (V4 ++ U)), by rw [← hT, e4, e3, e2]; simp only [ByteArray.append_assoc]⟩
  have c2 : ∃ X, T = (m.an.foldl rSt (m.qs.foldl qStep (st0 (hStr m)))).S ++ X := ⟨V3 ++ (V4 ++ U), by rw [← hT, e4, e3]; simp only [ByteArray.append_assoc]⟩
  have c3 : ∃ X, T = (m.ns.foldl rSt (m.an.foldl rSt (m.qs.foldl qStep (st0 (hStr m))))).S ++ X := ⟨V4 ++ U, by rw [← hT, e4]; simp only [ByteArray.append_assoc]⟩
  have r1 := listQ_read (T := T) (by omega) n1 G0 q1 G1.lg c1
  rw [s0, z] at r1
  refine Ev.bind r1 ?_
  refine Ev.bind (listR_read (T := T) (by omega) n2 G1 q2 G2.lg c2) ?_
  refine Ev.bind (listR_read (T := T) (by omega) n3 G2 q3 G3.lg c3) ?_
  refine Ev.bind (listR_read (T := T) (by omega) n4 G3 q4 G4.lg ⟨U, hT.symm⟩) ?_
  dsimp only
  rw [show (List.foldl rSt (List.foldl rSt (List.foldl rSt (List.foldl qStep (st0 (hStr m)) m.qs) m.an) m.ns) m.ar) = putEnd m from rfl]
  by_cases hU : U.size = 0
  · rw [if_pos hU]
    refine Ev.neg (by simp; omega) (Ev.some _ fun _ => ?_)
    rw [b0]
  · rw [if_neg hU]
    exact Ev.pos (by simp; omega) (Ev.some _ fun _ => rfl)
theorem put_S {m : MsgV} (hok : putOk m = true) (hl : (putEnd m).lg = false) : putS m = (putEnd m).S ∧ putE m = 0 ∧ 12 ≤ (putEnd m).S.size ∧ (putEnd m).S.size ≤ 4096 := by
  unfold putS putE
  rw [if_pos hok, if_pos hok, if_neg (by rw [hl]; decide), if_neg (by rw [hl]; decide)]
  obtain ⟨h0, hs, _⟩ := putOk_parts hok
  have z : (hStr m).size = 12 := by rw [hs, Hd.putS_size]
  obtain ⟨G0, G1, G2, G3, G4⟩ := steps hok hl
  obtain ⟨V1, e1⟩ := foldQ_more m.qs (st0 (hStr m)) G1.lg
  obtain ⟨V2, e2⟩ := foldR_more m.an _ G2.lg
  obtain ⟨V3, e3⟩ := foldR_more m.ns _ G3.lg
  obtain ⟨V4, e4⟩ := foldR_more m.ar _ G4.lg
  have e4 : (putEnd m).S = (m.ns.foldl rSt (m.an.foldl rSt (m.qs.foldl qStep (st0 (hStr m))))).S ++ V4 := e4
  have s0 : (st0 (hStr m)).S = hStr m := by rw [st0_ok z]
  refine ⟨rfl, rfl, ?_, G4.size⟩
  rw [e4, e3, e2, e1, s0]
  simp only [ByteArray.size_append]
  omega
theorem put_err {m : MsgV} (h : ¬ (putOk m = true ∧ (putEnd m).lg = false)) : putS m = ⟨#[]⟩ ∧ (putE m = 700 ∧ putOk m = false ∨ putE m = 701 ∧ putOk m = true ∧ (putEnd m).lg = true) := by
  unfold putS putE
  by_cases hok : putOk m = true
  · have hl : (putEnd m).lg = true := by
      cases hl : (putEnd m).lg with
      | true => rfl
      | false => exact absurd ⟨hok, hl⟩ h
    rw [if_pos hok, if_pos hok, if_pos hl, if_pos hl]
    exact ⟨rfl, .inr ⟨rfl, hok, hl⟩⟩
  · rw [if_neg hok, if_neg hok]
    exact ⟨rfl, .inl ⟨rfl, by simpa using hok⟩⟩
end Go.Proofs.Ytjklgdpffmaamaa.Wm

namespace Go.Proofs.Ytjklgdpffmaamaa.Pad
open Go.RowKit Go.PlainAid Go.Proofs.Ytjklgdpffmaamaa.Base Go.Proofs.Ytjklgdpffmaamaa.Oct Go.Proofs.Ytjklgdpffmaamaa.Wm Go.Proofs.Ytjklgdpffmaamaa.OptH
open Go.Proofs.YtjklgdpffmaamaaW.PrintWords (blk_cell blk_below blk_put blk_frozen blk_ne blk_new blk_lt blk_grown blk_alloc own_nil add_field)
set_option linter.unusedVariables false
set_option linter.unusedSimpArgs false
abbrev padR (m : MsgV) (d : ByteArray) : MsgV := withM m d none 0
def optD (k : Nat) : ByteArray := p16 12 ++ p16 (k : Int) ++ zeros k
def roomN (m : MsgV) (b : Int) : Nat := (roomI ((putS (padR m ⟨#[]⟩)).size : Int) b).toNat
def padS (m : MsgV) (b : Int) : ByteArray := if putE (padR m ⟨#[]⟩) = 0 then putS (padR m (optD (roomN m b))) else ⟨#[]⟩
def padE (m : MsgV) (b : Int) : Int := if putE (padR m ⟨#[]⟩) = 0 then putE (padR m (optD (roomN m b))) else putE (padR m ⟨#[]⟩)
theorem putS_size (m : MsgV) : (putS m).size ≤ 4096 := by
  by_cases H : putOk m = true ∧ (putEnd m).lg = false
  · obtain ⟨s1, s2, s3, s4⟩ := put_S H.1 H.2
    rw [s1]; exact s4
  · unfold putS
    by_cases h : putOk m = true
    · rw [if_pos h]
      have hl : (putEnd m).lg = true := by
        cases e : (putEnd m).lg with
        | true => rfl
        | false => exact absurd ⟨h, e⟩ H
      rw [if_pos hl]; decide
    · rw [if_neg h]; decide
set_option maxHeartbeats 4000000 in
set_option maxRecDepth 100000 in
theorem paddedc (m : MsgV) (b : Int) (hb1 : 1 ≤ b) (hb2 : b ≤ 1000) (w : World) (hm : m.Lies w) (ha : m.ar.length ≤ 63) :
    Calls Try.prog 47 #[.agg m.cells, .int .i64 b] w fun e w' => e = .returned (.tuple #[.string (padS m b), .int .i64 (padE m b)]) ∧ Below w.heap.size w w' := by
  have Bx : Below w.heap.size w (w.alloc (.cells m.cells 27)) := (Below.refl _ _).alloc (Nat.le_refl _) _
  have bM := blk_new w (.cells m.cells 27)
  have HM := Lib.hid hm
  clear hm
  go_enter Try.func47, Try.ntmps47
  go_upto_region 1 with (fail)
  generalize w.alloc (.cells m.cells 27) = w1 at *
  have x0 : w1.cell? ⟨w.heap.size, 0, none⟩ = some (.int .i64 m.h.id) := (blk_cell bM 0).trans rfl
  have x1 : w1.cell? ⟨w.heap.size, 1, none⟩ = some (.bool m.h.qr) := (blk_cell bM 1).trans rfl
  have x2 : w1.cell? ⟨w.heap.size, 2, none⟩ = some (.int .i64 m.h.op) := (blk_cell bM 2).trans rfl
  have x3 : w1.cell? ⟨w.heap.size, 3, none⟩ = some (.bool m.h.aa) := (blk_cell bM 3).trans rfl
  have x4 : w1.cell? ⟨w.heap.size, 4, none⟩ = some (.bool m.h.tc) := (blk_cell bM 4).trans rfl
  have x5 : w1.cell? ⟨w.heap.size, 5, none⟩ = some (.bool m.h.rd) := (blk_cell bM 5).trans rfl
  have x6 : w1.cell? ⟨w.heap.size, 6, none⟩ = some (.bool m.h.ra) := (blk_cell bM 6).trans rfl
  have x7 : w1.cell? ⟨w.heap.size, 7, none⟩ = some (.int .i64 m.h.z) := (blk_cell bM 7).trans rfl
  have x8 : w1.cell? ⟨w.heap.size, 8, none⟩ = some (.int .i64 m.h.rc) := (blk_cell bM 8).trans rfl
  have x9 : w1.cell? ⟨w.heap.size, 9, none⟩ = some (.slice m.Aq m.qs.length m.cq) := (blk_cell bM 9).trans rfl
  have x10 : w1.cell? ⟨w.heap.size, 10, none⟩ = some (.slice m.Aa m.an.length m.ca) := (blk_cell bM 10).trans rfl
  have x11 : w1.cell? ⟨w.heap.size, 11, none⟩ = some (.slice m.An m.ns.length m.cn) := (blk_cell bM 11).trans rfl
  have x12 : w1.cell? ⟨w.heap.size, 12, none⟩ = some (.slice m.Ar m.ar.length m.cr) := (blk_cell bM 12).trans rfl
  go_wp2_with fail
  refine (withc m (-1) ⟨#[]⟩ (.inl ⟨rfl, rfl⟩) w1 (HM.out.below Bx) ha).mono ?_
  rintro e w2 ⟨A1, c1, rfl, hm2, hb⟩
  replace Bx := Bx.trans (hb.mono Bx.size)
  replace bM := blk_below bM hb
  clear x0 x1 x2 x3 x4 x5 x6 x7 x8 x9 x10 x11 x12
  clear hb
  have kp := putc _ w2 hm2
  go_wp2_with fail
  refine kp.mono ?_
  rintro e w3 ⟨rfl, hb⟩
  replace Bx := Bx.trans (hb.mono Bx.size)
  replace bM := blk_below bM hb
  clear hb kp hm2
  have eS : putS (withM m ⟨#[]⟩ A1 c1) = putS (padR m ⟨#[]⟩) := rfl
  have eE : putE (withM m ⟨#[]⟩ A1 c1) = putE (padR m ⟨#[]⟩) := rfl
  rw [eS, eE]
  clear eS eE
  by_cases h0 : putE (padR m ⟨#[]⟩) = 0
  case neg =>
    have t0 : (putE (padR m ⟨#[]⟩) != 0) = true := by simpa using h0
    have e1 : padS m b = ⟨#[]⟩ := if_neg h0
    have e2 : padE m b = putE (padR m ⟨#[]⟩) := if_neg h0
    have HE := Lib.hid (And.intro e1 e2)
    clear h0 e1 e2
    generalize putE (padR m ⟨#[]⟩) = te at *
    generalize putS (padR m ⟨#[]⟩) = ts at *
    go_wp2_with fail
    go_ret2
    refine ⟨?_, Bx⟩
    rw [HE.out.1, HE.out.2]
    rfl
  have t0 : (putE (padR m ⟨#[]⟩) != 0) = false := by simpa using h0
  have e1 : padS m b = putS (padR m (optD (roomN m b))) := if_pos h0
  have e2 : padE m b = putE (padR m (optD (roomN m b))) := if_pos h0
  have rb := room_bd ((putS (padR m ⟨#[]⟩)).size : Int) b hb1
  have er : roomI ((putS (padR m ⟨#[]⟩)).size : Int) b = ((roomN m b : Nat) : Int) := by unfold roomN; omega
  have hz := putS_size (padR m ⟨#[]⟩)
  have kr := fun w => roomc ((putS (padR m ⟨#[]⟩)).size : Int) b (by omega) (by omega) w
  rw [er] at kr
  have hk : roomN m b ≤ 60000 := by omega
  have HE := Lib.hid (And.intro e1 e2)
  clear h0 e1 e2 er rb
  generalize roomN m b = k at *
  generalize putE (padR m ⟨#[]⟩) = te at *
  generalize putS (padR m ⟨#[]⟩) = ts at *
  have kw := fun w' (B : Below w.heap.size w w') => withc m (k : Int) (optD k) (.inr ⟨k, rfl, hk, rfl⟩) w' (HM.out.below B) ha
  have Bd : Below w.heap.size w w3.drew := Bx.drew
  have bd : w3.drew.heap[w.heap.size]? = _ := bM
  have x0 : w3.drew.cell? ⟨w.heap.size, 0, none⟩ = some (.int .i64 m.h.id) := (blk_cell bd 0).trans rfl
  have x1 : w3.drew.cell? ⟨w.heap.size, 1, none⟩ = some (.bool m.h.qr) := (blk_cell bd 1).trans rfl
  have x2 : w3.drew.cell? ⟨w.heap.size, 2, none⟩ = some (.int .i64 m.h.op) := (blk_cell bd 2).trans rfl
  have x3 : w3.drew.cell? ⟨w.heap.size, 3, none⟩ = some (.bool m.h.aa) := (blk_cell bd 3).trans rfl
  have x4 : w3.drew.cell? ⟨w.heap.size, 4, none⟩ = some (.bool m.h.tc) := (blk_cell bd 4).trans rfl
  have x5 : w3.drew.cell? ⟨w.heap.size, 5, none⟩ = some (.bool m.h.rd) := (blk_cell bd 5).trans rfl
  have x6 : w3.drew.cell? ⟨w.heap.size, 6, none⟩ = some (.bool m.h.ra) := (blk_cell bd 6).trans rfl
  have x7 : w3.drew.cell? ⟨w.heap.size, 7, none⟩ = some (.int .i64 m.h.z) := (blk_cell bd 7).trans rfl
  have x8 : w3.drew.cell? ⟨w.heap.size, 8, none⟩ = some (.int .i64 m.h.rc) := (blk_cell bd 8).trans rfl
  have x9 : w3.drew.cell? ⟨w.heap.size, 9, none⟩ = some (.slice m.Aq m.qs.length m.cq) := (blk_cell bd 9).trans rfl
  have x10 : w3.drew.cell? ⟨w.heap.size, 10, none⟩ = some (.slice m.Aa m.an.length m.ca) := (blk_cell bd 10).trans rfl
  have x11 : w3.drew.cell? ⟨w.heap.size, 11, none⟩ = some (.slice m.An m.ns.length m.cn) := (blk_cell bd 11).trans rfl
  have x12 : w3.drew.cell? ⟨w.heap.size, 12, none⟩ = some (.slice m.Ar m.ar.length m.cr) := (blk_cell bd 12).trans rfl
  go_upto_region 4 with (fail)
  go_region_held3 (fun w' => w'.cell? ⟨w.heap.size, 0, none⟩ = some (.int .i64 m.h.id) ∧ w'.cell? ⟨w.heap.size, 1, none⟩ = some (.bool m.h.qr) ∧ w'.cell? ⟨w.heap.size, 2, none⟩ = some (.int .i64 m.h.op) ∧ w'.cell? ⟨w.heap.size, 3, none⟩ = some (.bool m.h.aa) ∧ w'.cell? ⟨w.heap.size, 4, none⟩ = some (.bool m.h.tc) ∧ w'.cell? ⟨w.heap.size, 5, none⟩ = some (.bool m.h.rd) ∧ w'.cell? ⟨w.heap.size, 6, none⟩ = some (.bool m.h.ra) ∧ w'.cell? ⟨w.heap.size, 7, none⟩ = some (.int .i64 m.h.z) ∧ w'.cell? ⟨w.heap.size, 8, none⟩ = some (.int .i64 m.h.rc) ∧ w'.cell? ⟨w.heap.size, 9, none⟩ = some (.slice m.Aq m.qs.length m.cq) ∧ w'.cell? ⟨w.heap.size, 10, none⟩ = some (.slice m.Aa m.an.length m.ca) ∧ w'.cell? ⟨w.heap.size, 11, none⟩ = some (.slice m.An m.ns.length m.cn) ∧ w'.cell? ⟨w.heap.size, 12, none⟩ = some (.slice m.Ar m.ar.length m.cr))
    (first | go_keep | (go_split_ands; refine ⟨?_, ?_, ?_, ?_, ?_, ?_, ?_, ?_, ?_, ?_, ?_, ?_, ?_⟩ <;> assumption))
    (first
      | (go_at_call 28; refine (kr _).mono ?_; rintro e w' ⟨rfl, rfl⟩)
      | (go_at_call 78; refine (kw _ Bd).mono ?_; rintro e w4 ⟨A2, c2, rfl, hm4, hb4⟩; have Bd := Bd.trans (hb4.mono Bd.size); have bd := blk_below bd hb4; have x0 : w4.cell? ⟨w.heap.size, 0, none⟩ = some (.int .i64 m.h.id) := (blk_cell bd 0).trans rfl; have x1 : w4.cell? ⟨w.heap.size, 1, none⟩ = some (.bool m.h.qr) := (blk_cell bd 1).trans rfl; have x2 : w4.cell? ⟨w.heap.size, 2, none⟩ = some (.int .i64 m.h.op) := (blk_cell bd 2).trans rfl; have x3 : w4.cell? ⟨w.heap.size, 3, none⟩ = some (.bool m.h.aa) := (blk_cell bd 3).trans rfl; have x4 : w4.cell? ⟨w.heap.size, 4, none⟩ = some (.bool m.h.tc) := (blk_cell bd 4).trans rfl; have x5 : w4.cell? ⟨w.heap.size, 5, none⟩ = some (.bool m.h.rd) := (blk_cell bd 5).trans rfl; have x6 : w4.cell? ⟨w.heap.size, 6, none⟩ = some (.bool m.h.ra) := (blk_cell bd 6).trans rfl; have x7 : w4.cell? ⟨w.heap.size, 7, none⟩ = some (.int .i64 m.h.z) := (blk_cell bd 7).trans rfl; have x8 : w4.cell? ⟨w.heap.size, 8, none⟩ = some (.int .i64 m.h.rc) := (blk_cell bd 8).trans rfl; have x9 : w4.cell? ⟨w.heap.size, 9, none⟩ = some (.slice m.Aq m.qs.length m.cq) := (blk_cell bd 9).trans rfl; have x10 : w4.cell? ⟨w.heap.size, 10, none⟩ = some (.slice m.Aa m.an.length m.ca) := (blk_cell bd 10).trans rfl; have x11 : w4.cell? ⟨w.heap.size, 11, none⟩ = some (.slice m.An m.ns.length m.cn) := (blk_cell bd 11).trans rfl; have x12 : w4.cell? ⟨w.heap.size, 12, none⟩ = some (.slice m.Ar m.ar.length m.cr) := (blk_cell bd 12).trans rfl)
      | (go_at_call 34; refine (putc _ w4 hm4).mono ?_; rintro e w5 ⟨rfl, hb5⟩; have Bd := Bd.trans (hb5.mono Bd.size); have bd := blk_below bd hb5; have x0 : w5.cell? ⟨w.heap.size, 0, none⟩ = some (.int .i64 m.h.id) := (blk_cell bd 0).trans rfl; have x1 : w5.cell? ⟨w.heap.size, 1, none⟩ = some (.bool m.h.qr) := (blk_cell bd 1).trans rfl; have x2 : w5.cell? ⟨w.heap.size, 2, none⟩ = some (.int .i64 m.h.op) := (blk_cell bd 2).trans rfl; have x3 : w5.cell? ⟨w.heap.size, 3, none⟩ = some (.bool m.h.aa) := (blk_cell bd 3).trans rfl; have x4 : w5.cell? ⟨w.heap.size, 4, none⟩ = some (.bool m.h.tc) := (blk_cell bd 4).trans rfl; have x5 : w5.cell? ⟨w.heap.size, 5, none⟩ = some (.bool m.h.rd) := (blk_cell bd 5).trans rfl; have x6 : w5.cell? ⟨w.heap.size, 6, none⟩ = some (.bool m.h.ra) := (blk_cell bd 6).trans rfl; have x7 : w5.cell? ⟨w.heap.size, 7, none⟩ = some (.int .i64 m.h.z) := (blk_cell bd 7).trans rfl; have x8 : w5.cell? ⟨w.heap.size, 8, none⟩ = some (.int .i64 m.h.rc) := (blk_cell bd 8).trans rfl; have x9 : w5.cell? ⟨w.heap.size, 9, none⟩ = some (.slice m.Aq m.qs.length m.cq) := (blk_cell bd 9).trans rfl; have x10 : w5.cell? ⟨w.heap.size, 10, none⟩ = some (.slice m.Aa m.an.length m.ca) := (blk_cell bd 10).trans rfl; have x11 : w5.cell? ⟨w.heap.size, 11, none⟩ = some (.slice m.An m.ns.length m.cn) := (blk_cell bd 11).trans rfl; have x12 : w5.cell? ⟨w.heap.size, 12, none⟩ = some (.slice m.Ar m.ar.length m.cr) := (blk_cell bd 12).trans rfl))
  all_goals
    go_wp2_with fail
    go_ret2
    refine ⟨?_, Bd⟩
    rw [HE.out.1, HE.out.2]
    rfl
end Go.Proofs.Ytjklgdpffmaamaa.Pad

namespace Go.Proofs.Ytjklgdpffmaamaa.BRow
open Go.RowKit Go.PlainAid Go.Proofs.Ytjklgdpffmaamaa.Base
set_option linter.unusedVariables false
/-- Block g begins with the bytes l, none of them frozen. -/
def Is (w : World) (e g : Nat) (l : List UInt8) : Prop := ∃ cs lo hi, w.heap[g]? = some (.cells cs e (lo, hi)) ∧ l.length ≤ lo ∧ l.length ≤ cs.size ∧ ∀ j, j < l.length → cs[j]? = some (.int .u8 ((l.getD j 0).toNat : Int))
section
variable {w w' : World} {e g : Nat} {l : List UInt8}
theorem Is.lt (h : Is w e g l) : g < w.heap.size := by
  obtain ⟨cs, lo, hi, h, _⟩ := h
  exact (Array.getElem?_eq_some_iff.1 h).1
theorem Is.cell (h : Is w e g l) (j : Nat) (hj : j < l.length) : w.cell? ⟨g, j, none⟩ = some (.int .u8 ((l.getD j 0).toNat : Int)) := by
  obtain ⟨cs, lo, hi, hb, _, _, hc⟩ := h
  simp [World.cell?, hb, hc j hj]
theorem Is.free (h : Is w e g l) (j : Nat) (hj : j < l.length) : w.frozen? ⟨g, j, none⟩ = false := by
  obtain ⟨cs, lo, hi, hb, hlo, _, hc⟩ := h
  simp [World.frozen?, hb]
  omega
theorem Is.below (h : Is w e g l) (hb : Below w.heap.size w w') : Is w' e g l := by
  have hlt := h.lt
  obtain ⟨cs, lo, hi, hk, r⟩ := h
  exact ⟨cs, lo, hi, (hb.block g hlt).trans hk, r⟩
theorem Is.set (h : Is w e g l) (j : Nat) (hj : j < l.length) (v : UInt8) : Is (w.setCell ⟨g, j, none⟩ (.int .u8 (v.toNat : Int))) e g (l.set j v) := by
  obtain ⟨cs, lo, hi, hk, h1, h2, hc⟩ := h
  refine ⟨cs.setIfInBounds j (.int .u8 (v.toNat : Int)), lo, hi, ?_, by rw [List.length_set]; exact h1, by rw [List.length_set, Array.size_setIfInBounds]; exact h2, fun i hi' => ?_⟩
  · have hlt := (Array.getElem?_eq_some_iff.1 hk).1
    have hg : w.heap[g] = .cells cs e (lo, hi) := (Array.getElem?_eq_some_iff.1 hk).2
    unfold World.setCell
    rw [Array.getElem?_eq_getElem (by simpa using hlt)]
    rw [Array.getElem_modify_self, hg]
    rfl
  · rw [List.length_set] at hi'
    by_cases e' : j = i
    · subst e'
      rw [Array.getElem?_setIfInBounds_self_of_lt (by omega)]
      simp [List.getD_eq_getElem?_getD, hj]
    · rw [Array.getElem?_setIfInBounds_ne e', hc i hi']
      simp [List.getD_eq_getElem?_getD, List.getElem?_set_ne e']
theorem Is.back {P : Program} (h : Is w e g l) (src dst cap n : Nat) (hs : P.underlying src = some (.slice e)) (he : P.underlying e = some (.int .u8)) (hd : P.underlying dst = some .string) (hn : n = l.length) :
    (convert src dst (.slice (some ⟨g, 0, none⟩) n cap)).run P w = .ok (.string ⟨l.toArray⟩) w := by
  subst hn
  refine run_convert_bytes_back w src dst e ⟨g, 0, none⟩ cap l hs he hd fun j hj => ?_
  have := h.cell j hj
  have ea : (⟨g, 0, none⟩ : Addr).add j = ⟨g, j, none⟩ := by
    unfold Addr.add
    split
    · simp_all
    · simp
  rw [ea, this]
  simp [List.getD_eq_getElem?_getD, hj]
end
/-- '[]byte(s)': a new block, the elder ones as they were. -/
theorem made (w : World) (e : Nat) (s : ByteArray) : Below w.heap.size w (Lib.bytesWorld w e s) ∧ Is (Lib.bytesWorld w e s) e w.heap.size s.data.toList ∧ (Lib.bytesWorld w e s).heap.size = w.heap.size + 1 := by
  refine ⟨⟨rfl, rfl, rfl, by rw [Lib.bytesWorld_size]; omega, fun j hj => Lib.bytesWorld_at_old w e s j hj⟩, ⟨_, _, _, Lib.bytesWorld_at_new w e s, ?_, ?_, ?_⟩, Lib.bytesWorld_size w e s⟩
  · unfold Lib.bytesCells; simp
  · unfold Lib.bytesCells; simp
  · intro j hj
    have hj' : j < s.data.size := by simpa using hj
    unfold Lib.bytesCells
    rw [Array.getElem?_append_left (by simpa using hj')]
    simp [List.getD_eq_getElem?_getD, Array.getElem?_eq_getElem hj']
end Go.Proofs.Ytjklgdpffmaamaa.BRow

namespace Go.Proofs.Ytjklgdpffmaamaa.Bld
open Go.RowKit Go.Shelf Go.Proofs.Ytjklgdpffmaamaa.Base
set_option linter.unusedVariables false
set_option linter.unusedSimpArgs false
/-- A builder in block b holds the bytes l. -/
def Is (w : World) (B b : Nat) (l : List UInt8) : Prop := Lib.IsBuilder 137 5 B b (Lib.byteCells l) w
theorem info_Byte : ∃ i0, Try.prog.info? 5 = some i0 ∧ i0.zero = some (.int .u8 0) ∧ i0.size = 1 ∧ i0.bytes = 1 := info_parts (by kernel_rfl)
theorem sizeB : ∃ j, Try.prog.info? 137 = some j ∧ j.size = 2 := Option.map_eq_some_iff.1 (by kernel_rfl)
theorem liesB : liesAt Try.prog Try.prog.depth 137 (2 / Try.prog.cellsOf 137) 0 137 1 = true := by kernel_rfl
set_option maxHeartbeats 1000000 in
set_option maxRecDepth 100000 in
theorem check_used (b : Nat) (w : World) (h0 : w.cell? ⟨b, 0, none⟩ = some (.pointer (some ⟨b, 0, none⟩))) :
    Calls Try.prog 99 #[.pointer (some ⟨b, 0, none⟩)] w fun e w' => e = .returned (.tuple #[]) ∧ w' = w := by
  obtain ⟨j, hj, _⟩ := sizeB
  go_enter Try.func99, Try.ntmps99
  go_wp2
  rw [Lib.run_neq_ptr_same w _ Try.underlying135 hj]
  go_wp2
  go_end0
  exact ⟨rfl, rfl⟩
set_option maxHeartbeats 1000000 in
set_option maxRecDepth 100000 in
theorem check_fresh (b : Nat) (w : World) (h0 : w.cell? ⟨b, 0, none⟩ = some (.pointer none)) (hsh : w.shape? b = some (137, 2)) (hfz : w.frozen? ⟨b, 0, none⟩ = false) :
    Calls Try.prog 99 #[.pointer (some ⟨b, 0, none⟩)] w fun e w' => e = .returned (.tuple #[]) ∧ w' = w.setCell ⟨b, 0, none⟩ (.pointer (some ⟨b, 0, none⟩)) := by
  obtain ⟨j, hj, hjs⟩ := sizeB
  go_enter Try.func99, Try.ntmps99
  go_wp2
  rw [Lib.run_to_unsafe w ⟨b, 0, none⟩ Try.underlying135 Try.underlying172 hj (by rw [hjs]; decide) hsh (Nat.zero_lt_succ 1)]
  simp only [Result.andThen]
  rw [Oper.upon_value]
  go_wp2
  rw [run_callFunc_extern Try.func108 (by kernel_rfl) (by kernel_rfl) (by kernel_rfl) (e := Extern.AbiNoEscape.same) (by kernel_rfl)]
  rw [Lib.run_noEscape]
  simp only [Result.andThen]
  rw [Oper.upon_value]
  go_wp2
  rw [Lib.run_from_unsafe w ⟨b, 0, none⟩ Try.underlying172 Try.underlying135 hj hsh liesB]
  simp only [Result.andThen]
  rw [Oper.upon_value]
  go_wp2
  go_end0
  exact ⟨rfl, rfl⟩
theorem checkc (B b : Nat) (bs : List Value) (w : World) (h : Lib.IsBuilder 137 5 B b bs w) :
    Calls Try.prog 99 #[.pointer (some ⟨b, 0, none⟩)] w fun e w' => e = .returned (.tuple #[]) ∧ (Lib.BuilderAt 137 5 B b (.pointer (some ⟨b, 0, none⟩)) bs w' ∧ Below B w w') := by
  rcases h with h | h
  · refine (check_fresh b w h.cell0 h.shape h.frozen0).mono ?_
    rintro e w' ⟨rfl, rfl⟩
    exact ⟨rfl, h.used _, (Below.refl B w).setCell (p := ⟨b, 0, none⟩) h.1 _⟩
  · refine (check_used b w h.cell0).mono ?_
    rintro e w' ⟨rfl, rfl⟩
    exact ⟨rfl, h, Below.refl B _⟩
set_option maxHeartbeats 2000000 in
set_option maxRecDepth 100000 in
theorem bytec (B b : Nat) (l : List UInt8) (x : UInt8) (w : World) (h : Is w B b l) (hlen : l.length + 1 ≤ 140737488355328) (hBw : B ≤ w.heap.size) :
    Calls Try.prog 74 #[.pointer (some ⟨b, 0, none⟩), .int .u8 (x.toNat : Int)] w fun e w' => e = .returned .nilIface ∧ (Is w' B b (l ++ [x]) ∧ Below B w w') := by
  obtain ⟨i0, hi, hz0, hz1, hz2⟩ := info_Byte
  have hl : (Lib.byteCells l).length = l.length := Lib.byteCells_length l
  go_enter Try.func74, Try.ntmps74
  go_wp2_with (go_at_call 99; refine (checkc B b _ _ h).mono ?_)
  rintro e w1 ⟨rfl, h1, hb1⟩
  obtain ⟨hB, v, hbk, hown, hne⟩ := h1
  have c0 : w1.cell? ⟨b, 0, none⟩ = some (.pointer (some ⟨b, 0, none⟩)) := by rw [Lib.cell_of_heap hbk]; rfl
  have c1 : w1.cell? ⟨b, 1, none⟩ = some v := by rw [Lib.cell_of_heap hbk]; rfl
  go_wp2_with (at_builtin; refine wpList_append_own _ rfl _ _ 56 rfl B 5 i0 (.int .u8 0) 1 1 Try.underlying56 hi hz0 hz1 hz2 rfl (by decide) _ _ _ rfl (hown.alloc _) ⟨w1.heap.size, 0, none⟩ 1 1 [.int .u8 (x.toNat : Int)] rfl rfl ?c1 ?c2 ?c3 ?c4 ?c5 ?_)
  case c1 =>
    intro j u hj
    match j, hj with
    | 0, hj => simp at hj; subst hj; simp [Addr.add]
  case c2 => intro u hu; simp at hu; subst hu; rfl
  case c3 => unfold maxLen; omega
  case c4 => omega
  case c5 => have := hb1.size; simp; omega
  intro v' w2 hown' hgrow _
  have hlt : b < w1.heap.size := by
    rcases Nat.lt_or_ge b w1.heap.size with h' | h'
    · exact h'
    · simp [Array.getElem?_eq_none h'] at hbk
  have hb2 : w2.heap[b]? = some (.cells #[.pointer (some ⟨b, 0, none⟩), v] 137 (0, 0)) := by
    rw [hgrow.block b (by simp; omega) (fun e => hne e.symm), Lib.alloc_old w1 _ b hlt]
    exact hbk
  have d0 : w2.cell? ⟨b, 0, none⟩ = some (.pointer (some ⟨b, 0, none⟩)) := by rw [Lib.cell_of_heap hb2]; rfl
  have d1 : w2.cell? ⟨b, 1, none⟩ = some v := by rw [Lib.cell_of_heap hb2]; rfl
  have f1 : w2.frozen? ⟨b, 1, none⟩ = false := Lib.frozen_of_heap hb2 1
  obtain ⟨g, cap, rfl⟩ : ∃ g cap, v' = .slice (some ⟨g, 0, none⟩) (l.length + 1) cap := by
    rcases hown'.2 with ⟨_, h0⟩ | ⟨g, cap, cur, hv, _⟩
    · omega
    · exact ⟨g, cap, hv⟩
  go_wp2
  go_ret
  have eb : Lib.byteCells (l ++ [x]) = Lib.byteCells l ++ [.int .u8 (x.toNat : Int)] := by simp [Lib.byteCells]
  refine ⟨rfl, Or.inr ?_, ?_⟩
  · rw [eb]
    exact Lib.BuilderAt.put (T := 137) (e := 5) hB hb2 (bs' := Lib.byteCells l ++ [.int .u8 (x.toNat : Int)]) (by rw [List.length_append, hl]; exact hown') (by decide)
  · exact ((hb1.alloc (by have := hb1.size; omega) _).grown hgrow (by have := hb1.size; simp; omega) (fun k hk => (hown.lt k hk).1)).setCell (p := ⟨b, 1, none⟩) hB _
set_option maxHeartbeats 2000000 in
set_option maxRecDepth 100000 in
theorem stringc (B b : Nat) (l : List UInt8) (s : ByteArray) (w : World) (h : Is w B b l) (hlen : l.length + s.size ≤ 140737488355328) (hBw : B ≤ w.heap.size) :
    Calls Try.prog 75 #[.pointer (some ⟨b, 0, none⟩), .string s] w fun e w' => e = .returned (.tuple #[.int .i64 s.size, .nilIface]) ∧ (Is w' B b (l ++ s.data.toList) ∧ Below B w w') := by
  obtain ⟨i0, hi, hz0, hz1, hz2⟩ := info_Byte
  have hl : (Lib.byteCells l).length = l.length := Lib.byteCells_length l
  go_enter Try.func75, Try.ntmps75
  go_wp2_with (go_at_call 99; refine (checkc B b _ _ h).mono ?_)
  rintro e w1 ⟨rfl, h1, hb1⟩
  obtain ⟨hB, v, hbk, hown, hne⟩ := h1
  have c0 : w1.cell? ⟨b, 0, none⟩ = some (.pointer (some ⟨b, 0, none⟩)) := by rw [Lib.cell_of_heap hbk]; rfl
  have c1 : w1.cell? ⟨b, 1, none⟩ = some v := by rw [Lib.cell_of_heap hbk]; rfl
  go_wp2_with (at_builtin; refine Lib.wpList_append_own_string _ rfl _ _ 56 9 rfl B 5 i0 Try.underlying56 Try.underlying9 hi hz0 hz1 hz2 _ _ _ rfl hown s rfl ?c3 ?c4 ?c5 ?_)
  case c3 => unfold maxLen; omega
  case c4 => omega
  case c5 => have := hb1.size; omega
  intro v' w2 hown' hgrow _
  have hlt : b < w1.heap.size := by
    rcases Nat.lt_or_ge b w1.heap.size with h' | h'
    · exact h'
    · simp [Array.getElem?_eq_none h'] at hbk
  have hb2 : w2.heap[b]? = some (.cells #[.pointer (some ⟨b, 0, none⟩), v] 137 (0, 0)) := by
    rw [hgrow.block b hlt (fun e => hne e.symm)]
    exact hbk
  have d0 : w2.cell? ⟨b, 0, none⟩ = some (.pointer (some ⟨b, 0, none⟩)) := by rw [Lib.cell_of_heap hb2]; rfl
  have d1 : w2.cell? ⟨b, 1, none⟩ = some v := by rw [Lib.cell_of_heap hb2]; rfl
  have f1 : w2.frozen? ⟨b, 1, none⟩ = false := Lib.frozen_of_heap hb2 1
  obtain ⟨ao, n', cap, rfl⟩ : ∃ ao n' cap, v' = .slice ao n' cap := by
    rcases hown'.2 with ⟨hv, _⟩ | ⟨g, cap, cur, hv, _⟩
    · exact ⟨_, _, _, hv⟩
    · exact ⟨_, _, _, hv⟩
  go_wp2
  go_ret2
  have eb : Lib.byteCells (l ++ s.data.toList) = Lib.byteCells l ++ Lib.strCells s := by simp [Lib.byteCells, Lib.strCells]
  refine ⟨rfl, Or.inr ?_, ?_⟩
  · rw [eb]
    exact Lib.BuilderAt.put (T := 137) (e := 5) hB hb2 (bs' := Lib.byteCells l ++ Lib.strCells s) (by rw [List.length_append, hl, Lib.strCells_length]; exact hown') (by decide)
  · exact (hb1.grown hgrow (by have := hb1.size; omega) (fun k hk => (hown.lt k hk).1)).setCell (p := ⟨b, 1, none⟩) hB _
def lays_ren : Go.Shelf.Ren := ⟨fun | 169 => 77 | n => n, fun | 70 => 135 | 9 => 9 | 0 => 0 | 72 => 137 | 37 => 56 | 127 => 164 | 3 => 3 | 5 => 5 | n => n, fun | n => n⟩
theorem lays : Go.Proofs.Lays.n169 Try.prog lays_ren := {
  mixed := by kernel_rfl
  f169 := Try.func77.trans (congrArg some (by kernel_rfl))
  t0 := Try.underlying0
  a0 := Try.isAgg0
  z0 := Try.sizeOf0
  v0 := Try.zeroValue0
  t3 := Try.underlying3
  a3 := Try.isAgg3
  z3 := Try.sizeOf3
  v3 := Try.zeroValue3
  t9 := Try.underlying9
  a9 := Try.isAgg9
  z9 := Try.sizeOf9
  v9 := Try.zeroValue9
  t37 := Try.underlying56
  a37 := Try.isAgg56
  z37 := Try.sizeOf56
  v37 := Try.zeroValue56
  t70 := Try.underlying135
  a70 := Try.isAgg135
  z70 := Try.sizeOf135
  v70 := Try.zeroValue135
  t72 := Try.underlying137
  a72 := Try.isAgg137
  z72 := Try.sizeOf137
  v72 := Try.zeroValue137
  t127 := Try.underlying164
  a127 := Try.isAgg164
  z127 := Try.sizeOf164
  v127 := Try.zeroValue164 }
theorem extra : Builder.Extra Try.prog lays_ren := {
  sizeBuilder := by kernel_rfl
  liesBuilder := by kernel_rfl
  t5 := Try.underlying5
  a5 := Try.isAgg5
  z5 := Try.sizeOf5
  v5 := Try.zeroValue5
  infoByte := by kernel_rfl
  cellsByte := by kernel_rfl
  sizeByte := by kernel_rfl
  neB5 := by decide }
theorem strc (B b : Nat) (l : List UInt8) (w : World) (h : Is w B b l) (hBw : B ≤ w.heap.size) :
    Calls Try.prog 77 #[.pointer (some ⟨b, 0, none⟩)] w fun e w' => e = .returned (.string ⟨l.toArray⟩) ∧ Below B w w' := Any.Builder_String_any lays extra B b l w h hBw
theorem Is.below {w w' : World} {B b : Nat} {l : List UInt8} (h : Is w B b l) (hb : Below w.heap.size w w') : Is w' B b l := by
  have H : ∀ p, Lib.BuilderAt 137 5 B b p (Lib.byteCells l) w → Lib.BuilderAt 137 5 B b p (Lib.byteCells l) w' := by
    rintro p ⟨h1, v, h2, h3, h4⟩
    have hlt : b < w.heap.size := Lib.BuilderAt.lt ⟨h1, v, h2, h3, h4⟩
    exact ⟨h1, v, (hb.block b hlt).trans h2, Sl.own_below h3 hb, h4⟩
  exact h.imp (H _) (H _)
theorem fresh (w : World) : Is (w.alloc (.cells #[.pointer none, .slice none 0 0] 137)) w.heap.size w.heap.size [] := Lib.fresh_isBuilder _ _ w
end Go.Proofs.Ytjklgdpffmaamaa.Bld
