-- Written by a program of this session out of the translation (the kit's print, changed: ppatch.py); not the kit's own print.
import Derived.Test.YtndcjleadggibaaPRdax0
import Derived.Test.YtndcjleadggibaaPRdax2
namespace Go.Proofs.Ytndcjleadggibaa.PRda
open Go.RowKit Go.Proofs.YtndcjleadggibaaW.PrintWords Go.Proofs.YtndcjleadggibaaW.PrintLast Go.Proofs.YtndcjleadggibaaW.PrintMore
attribute [local go_sem] max2_int min2_int max_two min_two max_three min_three max_four min_four   -- for this text's walks alone
set_option linter.unusedVariables false
set_option linter.unusedSimpArgs false

/-! ### rdata_Txt: function 40 -/
def rdata_Txt.l0 : Nat → List ByteArray → List Int → List ByteArray → Int → Int → Option (ByteArray × Int)
  | 0, _, _, _, _, _ => none
  | k + 1, x0, x4, x7, x8, x9 => if x9 < x8 then (if 0 ≤ x9 then (if x9 < (x7.length : Int) then (if ((rdOf ByteArray.empty x7 x9).size : Int) > 255 then (some ((⟨#[]⟩ : ByteArray), 400)) else (if x4.length < 140737488355328 then ((some (x4 ++ [(((rdOf ByteArray.empty x7 x9).size : Int)) % 256] : List Int)).bind fun y113 => (if y113.length + (rdOf ByteArray.empty x7 x9).size < 140737488355328 then (rdata_Txt.l0 k x0 (y113 ++ bytesOf (rdOf ByteArray.empty x7 x9)) x7 x8 (wrap64 (x9 + 1))) else (none))) else (none))) else (none)) else (none)) else (if (x0.length : Int) = 0 then (some ((⟨#[]⟩ : ByteArray), 400)) else (if (x4.length : Int) > 65535 then (some ((⟨#[]⟩ : ByteArray), 400)) else (some (strOfNums x4, 0))))
def rdata_Txt.f (k : Nat) (l0 : List ByteArray) : Option (ByteArray × Int) := rdata_Txt.l0 k l0 ([] : List Int) l0 (l0.length : Int) 0
theorem rdata_Txt.mono_l : ∀ k, (∀ y0 y1 y2 y3 y4, LeO (rdata_Txt.l0 k y0 y1 y2 y3 y4) (rdata_Txt.l0 (k + 1) y0 y1 y2 y3 y4))
  | 0 => fun _ _ _ _ _ r h => by simp [rdata_Txt.l0] at h
  | k + 1 => by
    have ih0 := rdata_Txt.mono_l k
    · intro y0 y1 y2 y3 y4
      unfold rdata_Txt.l0
      repeat' first
      | (with_reducible exact ih0 _ _ _ _ _)
      | (with_reducible exact LeO.refl _)
      | (with_reducible exact LeO.none _)
      | (with_reducible refine LeO.ite ?_ ?_)
      | (with_reducible refine LeO.bind ?_ (fun _ => ?_))
      | exact ih0 _ _ _ _ _
      | exact LeO.none _
      | refine LeO.ite ?_ ?_
      | refine LeO.bind ?_ (fun _ => ?_)
theorem rdata_Txt.mono : ∀ a0 k, LeO (rdata_Txt.f k a0) (rdata_Txt.f (k + 1) a0) := by
  intro a0 k
  have ih0 := rdata_Txt.mono_l k
  unfold rdata_Txt.f
  repeat' first
      | (with_reducible exact ih0 _ _ _ _ _)
      | (with_reducible exact LeO.refl _)
      | (with_reducible exact LeO.none _)
      | (with_reducible refine LeO.ite ?_ ?_)
      | (with_reducible refine LeO.bind ?_ (fun _ => ?_))
      | exact ih0 _ _ _ _ _
      | exact LeO.none _
      | refine LeO.ite ?_ ?_
      | refine LeO.bind ?_ (fun _ => ?_)
set_option maxHeartbeats 8000000 in
set_option maxRecDepth 100000 in
theorem rdata_Txt.calls (k : Nat) (A0 : Option Addr) (c0 : Nat) (l0 : List ByteArray) (r1 : ByteArray) (r2 : Int) (w : World) (hr0 : Kd.C Kd.string w A0 l0.length l0) (hc0 : l0.length ≤ c0) (h : rdata_Txt.f k l0 = some (r1, r2)) :
    Calls Try.prog 40 #[.slice A0 l0.length c0] w fun e w' => e = .returned (.tuple #[.string r1, .int .i64 r2]) ∧ Below w.heap.size w w' := by
  have HR0 := Aside0.mk hr0
  have HC0 := Aside0.mk hc0
  clear hr0 hc0
  have HB := Aside0.mk (Below.refl w.heap.size w)
  have H : (rdata_Txt.l0 k l0 ([] : List Int) l0 (l0.length : Int) 0) = some (r1, r2) := h
  clear h
  have H' := Aside0.mk H
  clear H
  go_enter Try.func40, Try.ntmps40
  go_wp2
  go_loopg [4, 9] k (fun kq v4 v9 w' => ∃ (x4_1 : List Int) (x9_1 : Int), v9 = .int .i64 x9_1 ∧ Aside0 (rdata_Txt.l0 kq l0 x4_1 l0 (l0.length : Int) x9_1 = some (r1, r2)) ∧ Aside0 (kq ≤ k) ∧ Aside0 (Kd.R (Kd.int .u8) 5 w' w.heap.size (fun _ => True) v4 x4_1) ∧ Aside0 (Below w.heap.size w w'))
  case atStart => exact ⟨(([] : List Int)), (0), (by first | rfl | (simp; done) | (simp [*]; done)), H', ⟨Nat.le_refl _⟩, ⟨by first | exact Kd.R_nil _ _ _ _ _ | exact Kd.N_nil _ _ _ _ _ | exact Kd.V_nil _ _ _ _ _ | exact Kd.Q_nil _ _ _ _ _ | exact Kd.S_nil _ _ _ _ _⟩, ⟨by repeat (first | (with_reducible first | exact HB.out | apply below_alloc | apply pw_below_drewN | apply below_drew1) | exact HB.out)⟩⟩
  case round =>
    clear H'
    obtain ⟨x4_1, x9_1, rfl, HA, HK1, HO_4, HB⟩ := hrel
    cases gk with
    | zero => exact absurd HA.out (by simp [rdata_Txt.l0])
    | succ k1 =>
      have H := HA.out
      clear HA
      simp only [rdata_Txt.l0] at H
      by_cases c2 : x9_1 < (l0.length : Int)
      · rw [if_pos c2] at H
        have c2b0 : decide (x9_1 < (l0.length : Int)) = true := decide_eq_true c2
        clear c2
        by_cases c3 : 0 ≤ x9_1
        · rw [if_pos c3] at H
          have c3b0 : decide (0 ≤ x9_1) = true := decide_eq_true c3
          clear c3
          by_cases c4 : x9_1 < (l0.length : Int)
          · rw [if_pos c4] at H
            have c4b0 : decide (x9_1 < (l0.length : Int)) = true := decide_eq_true c4
            clear c4
            by_cases c5 : ((rdOf ByteArray.empty l0 x9_1).size : Int) > 255
            · rw [if_pos c5] at H
              have c5b0 : decide (255 < ((rdOf ByteArray.empty l0 x9_1).size : Int)) = true := decide_eq_true c5
              have c5b1 : decide (255 < (rdOf ByteArray.empty l0 x9_1).size) = true := decide_eq_true (by omega)
              clear c5
              simp only [Option.some.injEq, Prod.mk.injEq] at H
              obtain ⟨rfl, rfl⟩ := H
              have p112 : 0 ≤ (x9_1 : Int) := of_decide_eq_true (by first | (with_reducible assumption) | assumption)
              have q112 : x9_1 < (l0.length : Int) := of_decide_eq_true (by first | (with_reducible assumption) | assumption)
              obtain ⟨ad112, e112, hx112_0⟩ := Kd.at_string HR0.out x9_1 p112 q112
              cases e112
              replace hx112_0 := (HB.out.cell (World.block_lt_of_cell? w _ hx112_0)).trans hx112_0
              replace p112 := eq_true p112
              replace q112 := eq_true q112
              go_wp2
              go_ret2
              exact ⟨by first | rfl | (simp [errW_none, errW_some] <;> rfl) | (simp [*, errW_none, errW_some] <;> rfl), by repeat (first | (with_reducible first | exact HB.out | apply below_alloc | apply pw_below_drewN | apply below_drew1) | exact HB.out)⟩
            · rw [if_neg c5] at H
              have c5b0 : decide (255 < ((rdOf ByteArray.empty l0 x9_1).size : Int)) = false := decide_eq_false c5
              have c5b1 : decide (255 < (rdOf ByteArray.empty l0 x9_1).size) = false := decide_eq_false (by omega)
              clear c5
              by_cases c6 : x4_1.length < 140737488355328
              · rw [if_pos c6] at H
                have LMc6 := Aside0.mk c6
                clear c6
                obtain ⟨y113, hy113⟩ : ∃ y_ : List Int, y_ = (x4_1 ++ [(((rdOf ByteArray.empty l0 x9_1).size : Int)) % 256]) := ⟨_, rfl⟩
                replace H : (if y113.length + (rdOf ByteArray.empty l0 x9_1).size < 140737488355328 then (rdata_Txt.l0 k1 l0 (y113 ++ bytesOf (rdOf ByteArray.empty l0 x9_1)) l0 (l0.length : Int) (wrap64 (x9_1 + 1))) else (none)) = some (r1, r2) := by first | (rw [hy113]; with_reducible exact H) | (have H2_ := (Option.bind_some _ _).symm.trans H; rw [hy113]; with_reducible exact H2_) | (have H2_ := (Option.bind_some _ _).symm.trans H; with_reducible exact H2_) | with_reducible exact H | (rw [hy113]; exact H) | exact H
                have Ny113 := Aside0.mk hy113
                clear hy113
                by_cases c7 : y113.length + (rdOf ByteArray.empty l0 x9_1).size < 140737488355328
                · rw [if_pos c7] at H
                  have LMc7 := Aside0.mk c7
                  clear c7
                  obtain ⟨y116, hy116⟩ : ∃ y_ : List Int, y_ = (y113 ++ bytesOf (rdOf ByteArray.empty l0 x9_1)) := ⟨_, rfl⟩
                  replace H : (rdata_Txt.l0 k1 l0 y116 l0 (l0.length : Int) (wrap64 (x9_1 + 1))) = some (r1, r2) := by first | (rw [hy116]; with_reducible exact H) | (have H2_ := (Option.bind_some _ _).symm.trans H; rw [hy116]; with_reducible exact H2_) | (have H2_ := (Option.bind_some _ _).symm.trans H; with_reducible exact H2_) | with_reducible exact H | (rw [hy116]; exact H) | exact H
                  have Ny116 := Aside0.mk hy116
                  clear hy116
                  have H' := Aside0.mk H
                  clear H
                  have p112 : 0 ≤ (x9_1 : Int) := of_decide_eq_true (by first | (with_reducible assumption) | assumption)
                  have q112 : x9_1 < (l0.length : Int) := of_decide_eq_true (by first | (with_reducible assumption) | assumption)
                  obtain ⟨ad112, e112, hx112_0⟩ := Kd.at_string HR0.out x9_1 p112 q112
                  cases e112
                  replace hx112_0 := (HB.out.cell (World.block_lt_of_cell? w _ hx112_0)).trans hx112_0
                  replace p112 := eq_true p112
                  replace q112 := eq_true q112
                  go_wp2_with (first | ((with_reducible refine gate_builtin (b := .append) (xs := #[.tmp 16, .tmp 20]) rfl ?_); (try (refine gate_guard (by rfl) ?_; dsimp only)); at_builtin; refine Kd.R_append (Kd.int .u8) (w0 := w) w.heap.size rfl (.tmp 16) (.tmp 20) 54 5 (.int .u8 0) 1 rfl Try.underlying54 info5 rfl (by decide) (by omega) u4 x4_1 ((((rdOf ByteArray.empty l0 x9_1).size : Int)) % 256) [.int .u8 ((((rdOf ByteArray.empty l0 x9_1).size : Int)) % 256)] (fun _ => True) (fun _ => False) rfl rfl ?aP (fun _ hk => hk.elim) ?aF ?aO ?aB ?aS ?aL ?_; (case aP => exact rfl); (case aB => exact (by repeat (first | (with_reducible first | exact HB.out | apply below_alloc | apply pw_below_drewN | apply below_drew1) | exact HB.out))); (case aF => exact (fun _ _ => trivial)); (case aO => exact (by (with_reducible repeat (first | apply Kd.R_alloc | apply Kd.R_drewN | apply Kd.R_drew)); exact HO_4.out)); (case aS => exact (below_size (by repeat (first | (with_reducible first | exact HB.out | apply below_alloc | apply pw_below_drewN | apply below_drew1) | exact HB.out)))); (case aL => have := LMc6.out; omega); intro v114 w8 ho hb hg hat; rw [← Ny113.out] at ho; have n0_ := Aside0.mk (hb); have n1_ := Aside0.mk (ho); clear HB; clear HO_4; have HB := n0_; have HO115 := n1_; clear n0_ n1_; clear ho hb hg hat) | (at_builtin; refine print_append_str (w0 := w) w.heap.size rfl (.tmp 21) _ 54 9 5 rfl Try.underlying54 Try.underlying9 info5 v114 y113 (rdOf ByteArray.empty l0 x9_1) rfl rfl ?aO ?aB ?aS ?aL ?_; (case aB => exact (by repeat (first | (with_reducible first | exact HB.out | apply below_alloc | apply pw_below_drewN | apply below_drew1) | exact HB.out))); (case aO => exact (Kd.own_of_R (by (with_reducible repeat (first | apply Kd.R_alloc | apply Kd.R_drewN | apply Kd.R_drew)); exact HO115.out))); (case aS => exact (below_size (by repeat (first | (with_reducible first | exact HB.out | apply below_alloc | apply pw_below_drewN | apply below_drew1) | exact HB.out)))); (case aL => have := LMc7.out; omega); intro v117 w9 ho0 hb hg; have ho := Kd.R_of_own (h1 := fun _ => rfl) (ok := fun _ => True) ho0 (fun _ _ => trivial); clear ho0; have hat := True.intro; rw [← Ny116.out] at ho; change Kd.R (Kd.int .u8) 5 w9 w.heap.size (fun _ => True) v117 y116 at ho; have n0_ := Aside0.mk (hb); have n1_ := Aside0.mk (ho); clear HB; clear HO115; have HB := n0_; have HO118 := n1_; clear n0_ n1_; clear ho hb hg hat))
                  go_roundg k1
                  case measure => have := HK1.out; omega
                  case rel => exact ⟨(y116), (wrap64 (x9_1 + 1)), (by first | rfl | (simp; done) | (simp [*]; done)), H', ⟨by have := HK1.out; omega⟩, ⟨by (with_reducible repeat (first | apply Kd.R_alloc | apply Kd.R_drewN | apply Kd.R_drew)); exact HO118.out⟩, ⟨by repeat (first | (with_reducible first | exact HB.out | apply below_alloc | apply pw_below_drewN | apply below_drew1) | exact HB.out)⟩⟩
                · rw [if_neg c7] at H
                  exact absurd H (by simp)
              · rw [if_neg c6] at H
                exact absurd H (by simp)
          · rw [if_neg c4] at H
            exact absurd H (by simp)
        · rw [if_neg c3] at H
          exact absurd H (by simp)
      · rw [if_neg c2] at H
        have c2b0 : decide (x9_1 < (l0.length : Int)) = false := decide_eq_false c2
        clear c2
        by_cases c10 : (l0.length : Int) = 0
        · rw [if_pos c10] at H
          have c10b0 : ((l0.length : Int) == 0) = true := beq_iff_eq.mpr c10
          have c10b1 : ((l0.length : Int) != 0) = false := bne_eq_false_iff_eq.mpr c10
          clear c10
          simp only [Option.some.injEq, Prod.mk.injEq] at H
          obtain ⟨rfl, rfl⟩ := H
          go_wp2
          go_ret2
          exact ⟨by first | rfl | (simp [errW_none, errW_some] <;> rfl) | (simp [*, errW_none, errW_some] <;> rfl), by repeat (first | (with_reducible first | exact HB.out | apply below_alloc | apply pw_below_drewN | apply below_drew1) | exact HB.out)⟩
        · rw [if_neg c10] at H
          have c10b0 : ((l0.length : Int) == 0) = false := beq_eq_false_iff_ne.mpr c10
          have c10b1 : ((l0.length : Int) != 0) = true := bne_iff_ne.mpr c10
          have c10b2 : ¬ (l0 = []) := fun h_ => c10 (by rw [h_]; rfl)
          by_cases c11 : (x4_1.length : Int) > 65535
          · rw [if_pos c11] at H
            have c11b0 : decide (65535 < (x4_1.length : Int)) = true := decide_eq_true c11
            have c11b1 : decide (65535 < x4_1.length) = true := decide_eq_true (by omega)
            clear c11
            simp only [Option.some.injEq, Prod.mk.injEq] at H
            obtain ⟨rfl, rfl⟩ := H
            obtain ⟨Ao12, co12, eo12⟩ := Kd.R_slice HO_4.out
            subst eo12
            go_wp2
            go_ret2
            exact ⟨by first | rfl | (simp [errW_none, errW_some] <;> rfl) | (simp [*, errW_none, errW_some] <;> rfl), by repeat (first | (with_reducible first | exact HB.out | apply below_alloc | apply pw_below_drewN | apply below_drew1) | exact HB.out)⟩
          · rw [if_neg c11] at H
            have c11b0 : decide (65535 < (x4_1.length : Int)) = false := decide_eq_false c11
            have c11b1 : decide (65535 < x4_1.length) = false := decide_eq_false (by omega)
            clear c11
            simp only [Option.some.injEq, Prod.mk.injEq] at H
            obtain ⟨rfl, rfl⟩ := H
            obtain ⟨Ao13, co13, eo13⟩ := Kd.R_slice HO_4.out
            subst eo13
            have hcv14 := own_string (P := Try.prog) Try.underlying54 Try.underlying5 Try.underlying9 (Kd.own_of_R HO_4.out)
            go_wp2
            go_ret2
            exact ⟨by first | rfl | (simp [errW_none, errW_some] <;> rfl) | (simp [*, errW_none, errW_some] <;> rfl), by repeat (first | (with_reducible first | exact HB.out | apply below_alloc | apply pw_below_drewN | apply below_drew1) | exact HB.out)⟩

/-! ### wimplelaw4_awake: function 43 -/
def wimplelaw4_awake.f (k : Nat)  : Option (Bool) := (rdata_A.f 258).bind fun bt119 => ((rdata_Addr.f bt119.1).bind fun bt121 => ((rdata_Mx.f 5 (⟨#[1, 109, 0]⟩ : ByteArray)).bind fun bt123 => ((rdata_Host.f 15 bt123.1).bind fun bt125 => ((rdata_Soa.f (⟨#[0]⟩ : ByteArray) (⟨#[0]⟩ : ByteArray) 0 0 0 0 7).bind fun bt127 => ((rdata_Unsoa.f bt127.1).bind fun bt129 => ((rdata_Txt.f k (([(⟨#[97, 98]⟩ : ByteArray), (⟨#[]⟩ : ByteArray)] : List ByteArray))).bind fun bt141 => ((rdata_A.f (-1)).bind fun bt143 => (if bt119.1.toList = ([0, 0, 1, 2] : List UInt8) then ((wimplelaw0_Num.f bt119.2).bind fun t145 => (if t145 = 0 then (if bt121.1 = 258 then ((wimplelaw0_Num.f bt121.2).bind fun t146 => (if t146 = 0 then (if bt123.1.toList = ([0, 5, 1, 109, 0] : List UInt8) then ((wimplelaw0_Num.f bt123.2).bind fun t147 => (if t147 = 0 then (if bt125.1.toList = ([1, 109, 0] : List UInt8) then ((wimplelaw0_Num.f bt125.2).bind fun t148 => (if t148 = 0 then (if (bt127.1.size : Int) = 22 then ((wimplelaw0_Num.f bt127.2).bind fun t149 => (if t149 = 0 then (if bt129.2.2.2.2.2.2.1 = 7 then ((wimplelaw0_Num.f bt129.2.2.2.2.2.2.2).bind fun t150 => (if t150 = 0 then (if bt141.1.toList = ([2, 97, 98, 0] : List UInt8) then ((wimplelaw0_Num.f bt141.2).bind fun t151 => (if t151 = 0 then ((wimplelaw0_Num.f bt143.2).bind fun t152 => (if t152 = 400 then ((rdata_May.f 1 bt119.1).bind fun t153 => (if t153 = true then ((rdata_May.f 1 (⟨#[]⟩ : ByteArray)).bind fun t154 => (if t154 = true then (none) else ((rdata_May.f 0 (⟨#[]⟩ : ByteArray)).bind fun t155 => (some (!t155))))) else (none))) else (none))) else (none))) else (none)) else (none))) else (none)) else (none))) else (none)) else (none))) else (none)) else (none))) else (none)) else (none))) else (none)) else (none))) else (none)))))))))
theorem wimplelaw4_awake.mono : ∀ k, LeO (wimplelaw4_awake.f k ) (wimplelaw4_awake.f (k + 1) ) := by
  intro  k
  unfold wimplelaw4_awake.f
  repeat' first
      | (with_reducible exact rdata_Txt.mono _ _)
      | (with_reducible exact LeO.refl _)
      | (with_reducible exact LeO.none _)
      | (with_reducible refine LeO.ite ?_ ?_)
      | (with_reducible refine LeO.bind ?_ (fun _ => ?_))
      | exact rdata_Txt.mono _ _
      | exact LeO.none _
      | refine LeO.ite ?_ ?_
      | refine LeO.bind ?_ (fun _ => ?_)
set_option maxHeartbeats 8000000 in
set_option maxRecDepth 100000 in
theorem wimplelaw4_awake.calls (k : Nat)  (r : Bool) (w : World) (h : wimplelaw4_awake.f k  = some r) :
    Calls Try.prog 43 #[] w fun e w' => e = .returned (.bool r) ∧ Below w.heap.size w w' := by
  have hu59 := Try.underlying59
  have HB := Aside0.mk (Below.refl w.heap.size w)
  have H : ((rdata_A.f 258).bind fun bt119 => ((rdata_Addr.f bt119.1).bind fun bt121 => ((rdata_Mx.f 5 (⟨#[1, 109, 0]⟩ : ByteArray)).bind fun bt123 => ((rdata_Host.f 15 bt123.1).bind fun bt125 => ((rdata_Soa.f (⟨#[0]⟩ : ByteArray) (⟨#[0]⟩ : ByteArray) 0 0 0 0 7).bind fun bt127 => ((rdata_Unsoa.f bt127.1).bind fun bt129 => ((rdata_Txt.f k (([(⟨#[97, 98]⟩ : ByteArray), (⟨#[]⟩ : ByteArray)] : List ByteArray))).bind fun bt141 => ((rdata_A.f (-1)).bind fun bt143 => (if bt119.1.toList = ([0, 0, 1, 2] : List UInt8) then ((wimplelaw0_Num.f bt119.2).bind fun t145 => (if t145 = 0 then (if bt121.1 = 258 then ((wimplelaw0_Num.f bt121.2).bind fun t146 => (if t146 = 0 then (if bt123.1.toList = ([0, 5, 1, 109, 0] : List UInt8) then ((wimplelaw0_Num.f bt123.2).bind fun t147 => (if t147 = 0 then (if bt125.1.toList = ([1, 109, 0] : List UInt8) then ((wimplelaw0_Num.f bt125.2).bind fun t148 => (if t148 = 0 then (if (bt127.1.size : Int) = 22 then ((wimplelaw0_Num.f bt127.2).bind fun t149 => (if t149 = 0 then (if bt129.2.2.2.2.2.2.1 = 7 then ((wimplelaw0_Num.f bt129.2.2.2.2.2.2.2).bind fun t150 => (if t150 = 0 then (if bt141.1.toList = ([2, 97, 98, 0] : List UInt8) then ((wimplelaw0_Num.f bt141.2).bind fun t151 => (if t151 = 0 then ((wimplelaw0_Num.f bt143.2).bind fun t152 => (if t152 = 400 then ((rdata_May.f 1 bt119.1).bind fun t153 => (if t153 = true then ((rdata_May.f 1 (⟨#[]⟩ : ByteArray)).bind fun t154 => (if t154 = true then (none) else ((rdata_May.f 0 (⟨#[]⟩ : ByteArray)).bind fun t155 => (some (!t155))))) else (none))) else (none))) else (none))) else (none)) else (none))) else (none)) else (none))) else (none)) else (none))) else (none)) else (none))) else (none)) else (none))) else (none)) else (none))) else (none)))))))))) = some r := h
  clear h
  replace H := Option.bind_eq_some_iff.mp H
  obtain ⟨⟨t119, t120⟩, A10, H⟩ := H
  replace H : ((rdata_Addr.f t119).bind fun bt121 => ((rdata_Mx.f 5 (⟨#[1, 109, 0]⟩ : ByteArray)).bind fun bt123 => ((rdata_Host.f 15 bt123.1).bind fun bt125 => ((rdata_Soa.f (⟨#[0]⟩ : ByteArray) (⟨#[0]⟩ : ByteArray) 0 0 0 0 7).bind fun bt127 => ((rdata_Unsoa.f bt127.1).bind fun bt129 => ((rdata_Txt.f k (([(⟨#[97, 98]⟩ : ByteArray), (⟨#[]⟩ : ByteArray)] : List ByteArray))).bind fun bt141 => ((rdata_A.f (-1)).bind fun bt143 => (if t119.toList = ([0, 0, 1, 2] : List UInt8) then ((wimplelaw0_Num.f t120).bind fun t145 => (if t145 = 0 then (if bt121.1 = 258 then ((wimplelaw0_Num.f bt121.2).bind fun t146 => (if t146 = 0 then (if bt123.1.toList = ([0, 5, 1, 109, 0] : List UInt8) then ((wimplelaw0_Num.f bt123.2).bind fun t147 => (if t147 = 0 then (if bt125.1.toList = ([1, 109, 0] : List UInt8) then ((wimplelaw0_Num.f bt125.2).bind fun t148 => (if t148 = 0 then (if (bt127.1.size : Int) = 22 then ((wimplelaw0_Num.f bt127.2).bind fun t149 => (if t149 = 0 then (if bt129.2.2.2.2.2.2.1 = 7 then ((wimplelaw0_Num.f bt129.2.2.2.2.2.2.2).bind fun t150 => (if t150 = 0 then (if bt141.1.toList = ([2, 97, 98, 0] : List UInt8) then ((wimplelaw0_Num.f bt141.2).bind fun t151 => (if t151 = 0 then ((wimplelaw0_Num.f bt143.2).bind fun t152 => (if t152 = 400 then ((rdata_May.f 1 t119).bind fun t153 => (if t153 = true then ((rdata_May.f 1 (⟨#[]⟩ : ByteArray)).bind fun t154 => (if t154 = true then (none) else ((rdata_May.f 0 (⟨#[]⟩ : ByteArray)).bind fun t155 => (some (!t155))))) else (none))) else (none))) else (none))) else (none)) else (none))) else (none)) else (none))) else (none)) else (none))) else (none)) else (none))) else (none)) else (none))) else (none)) else (none))) else (none))))))))) = some r := H
  have A1 := Aside0.mk A10
  clear A10
  replace H := Option.bind_eq_some_iff.mp H
  obtain ⟨⟨t121, t122⟩, A20, H⟩ := H
  replace H : ((rdata_Mx.f 5 (⟨#[1, 109, 0]⟩ : ByteArray)).bind fun bt123 => ((rdata_Host.f 15 bt123.1).bind fun bt125 => ((rdata_Soa.f (⟨#[0]⟩ : ByteArray) (⟨#[0]⟩ : ByteArray) 0 0 0 0 7).bind fun bt127 => ((rdata_Unsoa.f bt127.1).bind fun bt129 => ((rdata_Txt.f k (([(⟨#[97, 98]⟩ : ByteArray), (⟨#[]⟩ : ByteArray)] : List ByteArray))).bind fun bt141 => ((rdata_A.f (-1)).bind fun bt143 => (if t119.toList = ([0, 0, 1, 2] : List UInt8) then ((wimplelaw0_Num.f t120).bind fun t145 => (if t145 = 0 then (if t121 = 258 then ((wimplelaw0_Num.f t122).bind fun t146 => (if t146 = 0 then (if bt123.1.toList = ([0, 5, 1, 109, 0] : List UInt8) then ((wimplelaw0_Num.f bt123.2).bind fun t147 => (if t147 = 0 then (if bt125.1.toList = ([1, 109, 0] : List UInt8) then ((wimplelaw0_Num.f bt125.2).bind fun t148 => (if t148 = 0 then (if (bt127.1.size : Int) = 22 then ((wimplelaw0_Num.f bt127.2).bind fun t149 => (if t149 = 0 then (if bt129.2.2.2.2.2.2.1 = 7 then ((wimplelaw0_Num.f bt129.2.2.2.2.2.2.2).bind fun t150 => (if t150 = 0 then (if bt141.1.toList = ([2, 97, 98, 0] : List UInt8) then ((wimplelaw0_Num.f bt141.2).bind fun t151 => (if t151 = 0 then ((wimplelaw0_Num.f bt143.2).bind fun t152 => (if t152 = 400 then ((rdata_May.f 1 t119).bind fun t153 => (if t153 = true then ((rdata_May.f 1 (⟨#[]⟩ : ByteArray)).bind fun t154 => (if t154 = true then (none) else ((rdata_May.f 0 (⟨#[]⟩ : ByteArray)).bind fun t155 => (some (!t155))))) else (none))) else (none))) else (none))) else (none)) else (none))) else (none)) else (none))) else (none)) else (none))) else (none)) else (none))) else (none)) else (none))) else (none)) else (none))) else (none)))))))) = some r := H
  have A2 := Aside0.mk A20
  clear A20
  replace H := Option.bind_eq_some_iff.mp H
  obtain ⟨⟨t123, t124⟩, A30, H⟩ := H
  replace H : ((rdata_Host.f 15 t123).bind fun bt125 => ((rdata_Soa.f (⟨#[0]⟩ : ByteArray) (⟨#[0]⟩ : ByteArray) 0 0 0 0 7).bind fun bt127 => ((rdata_Unsoa.f bt127.1).bind fun bt129 => ((rdata_Txt.f k (([(⟨#[97, 98]⟩ : ByteArray), (⟨#[]⟩ : ByteArray)] : List ByteArray))).bind fun bt141 => ((rdata_A.f (-1)).bind fun bt143 => (if t119.toList = ([0, 0, 1, 2] : List UInt8) then ((wimplelaw0_Num.f t120).bind fun t145 => (if t145 = 0 then (if t121 = 258 then ((wimplelaw0_Num.f t122).bind fun t146 => (if t146 = 0 then (if t123.toList = ([0, 5, 1, 109, 0] : List UInt8) then ((wimplelaw0_Num.f t124).bind fun t147 => (if t147 = 0 then (if bt125.1.toList = ([1, 109, 0] : List UInt8) then ((wimplelaw0_Num.f bt125.2).bind fun t148 => (if t148 = 0 then (if (bt127.1.size : Int) = 22 then ((wimplelaw0_Num.f bt127.2).bind fun t149 => (if t149 = 0 then (if bt129.2.2.2.2.2.2.1 = 7 then ((wimplelaw0_Num.f bt129.2.2.2.2.2.2.2).bind fun t150 => (if t150 = 0 then (if bt141.1.toList = ([2, 97, 98, 0] : List UInt8) then ((wimplelaw0_Num.f bt141.2).bind fun t151 => (if t151 = 0 then ((wimplelaw0_Num.f bt143.2).bind fun t152 => (if t152 = 400 then ((rdata_May.f 1 t119).bind fun t153 => (if t153 = true then ((rdata_May.f 1 (⟨#[]⟩ : ByteArray)).bind fun t154 => (if t154 = true then (none) else ((rdata_May.f 0 (⟨#[]⟩ : ByteArray)).bind fun t155 => (some (!t155))))) else (none))) else (none))) else (none))) else (none)) else (none))) else (none)) else (none))) else (none)) else (none))) else (none)) else (none))) else (none)) else (none))) else (none)) else (none))) else (none))))))) = some r := H
  have A3 := Aside0.mk A30
  clear A30
  replace H := Option.bind_eq_some_iff.mp H
  obtain ⟨⟨t125, t126⟩, A40, H⟩ := H
  replace H : ((rdata_Soa.f (⟨#[0]⟩ : ByteArray) (⟨#[0]⟩ : ByteArray) 0 0 0 0 7).bind fun bt127 => ((rdata_Unsoa.f bt127.1).bind fun bt129 => ((rdata_Txt.f k (([(⟨#[97, 98]⟩ : ByteArray), (⟨#[]⟩ : ByteArray)] : List ByteArray))).bind fun bt141 => ((rdata_A.f (-1)).bind fun bt143 => (if t119.toList = ([0, 0, 1, 2] : List UInt8) then ((wimplelaw0_Num.f t120).bind fun t145 => (if t145 = 0 then (if t121 = 258 then ((wimplelaw0_Num.f t122).bind fun t146 => (if t146 = 0 then (if t123.toList = ([0, 5, 1, 109, 0] : List UInt8) then ((wimplelaw0_Num.f t124).bind fun t147 => (if t147 = 0 then (if t125.toList = ([1, 109, 0] : List UInt8) then ((wimplelaw0_Num.f t126).bind fun t148 => (if t148 = 0 then (if (bt127.1.size : Int) = 22 then ((wimplelaw0_Num.f bt127.2).bind fun t149 => (if t149 = 0 then (if bt129.2.2.2.2.2.2.1 = 7 then ((wimplelaw0_Num.f bt129.2.2.2.2.2.2.2).bind fun t150 => (if t150 = 0 then (if bt141.1.toList = ([2, 97, 98, 0] : List UInt8) then ((wimplelaw0_Num.f bt141.2).bind fun t151 => (if t151 = 0 then ((wimplelaw0_Num.f bt143.2).bind fun t152 => (if t152 = 400 then ((rdata_May.f 1 t119).bind fun t153 => (if t153 = true then ((rdata_May.f 1 (⟨#[]⟩ : ByteArray)).bind fun t154 => (if t154 = true then (none) else ((rdata_May.f 0 (⟨#[]⟩ : ByteArray)).bind fun t155 => (some (!t155))))) else (none))) else (none))) else (none))) else (none)) else (none))) else (none)) else (none))) else (none)) else (none))) else (none)) else (none))) else (none)) else (none))) else (none)) else (none))) else (none)))))) = some r := H
  have A4 := Aside0.mk A40
  clear A40
  replace H := Option.bind_eq_some_iff.mp H
  obtain ⟨⟨t127, t128⟩, A50, H⟩ := H
  replace H : ((rdata_Unsoa.f t127).bind fun bt129 => ((rdata_Txt.f k (([(⟨#[97, 98]⟩ : ByteArray), (⟨#[]⟩ : ByteArray)] : List ByteArray))).bind fun bt141 => ((rdata_A.f (-1)).bind fun bt143 => (if t119.toList = ([0, 0, 1, 2] : List UInt8) then ((wimplelaw0_Num.f t120).bind fun t145 => (if t145 = 0 then (if t121 = 258 then ((wimplelaw0_Num.f t122).bind fun t146 => (if t146 = 0 then (if t123.toList = ([0, 5, 1, 109, 0] : List UInt8) then ((wimplelaw0_Num.f t124).bind fun t147 => (if t147 = 0 then (if t125.toList = ([1, 109, 0] : List UInt8) then ((wimplelaw0_Num.f t126).bind fun t148 => (if t148 = 0 then (if (t127.size : Int) = 22 then ((wimplelaw0_Num.f t128).bind fun t149 => (if t149 = 0 then (if bt129.2.2.2.2.2.2.1 = 7 then ((wimplelaw0_Num.f bt129.2.2.2.2.2.2.2).bind fun t150 => (if t150 = 0 then (if bt141.1.toList = ([2, 97, 98, 0] : List UInt8) then ((wimplelaw0_Num.f bt141.2).bind fun t151 => (if t151 = 0 then ((wimplelaw0_Num.f bt143.2).bind fun t152 => (if t152 = 400 then ((rdata_May.f 1 t119).bind fun t153 => (if t153 = true then ((rdata_May.f 1 (⟨#[]⟩ : ByteArray)).bind fun t154 => (if t154 = true then (none) else ((rdata_May.f 0 (⟨#[]⟩ : ByteArray)).bind fun t155 => (some (!t155))))) else (none))) else (none))) else (none))) else (none)) else (none))) else (none)) else (none))) else (none)) else (none))) else (none)) else (none))) else (none)) else (none))) else (none)) else (none))) else (none))))) = some r := H
  have A5 := Aside0.mk A50
  clear A50
  replace H := Option.bind_eq_some_iff.mp H
  obtain ⟨⟨t129, t130, t131, t132, t133, t134, t135, t136⟩, A60, H⟩ := H
  replace H : ((rdata_Txt.f k (([(⟨#[97, 98]⟩ : ByteArray), (⟨#[]⟩ : ByteArray)] : List ByteArray))).bind fun bt141 => ((rdata_A.f (-1)).bind fun bt143 => (if t119.toList = ([0, 0, 1, 2] : List UInt8) then ((wimplelaw0_Num.f t120).bind fun t145 => (if t145 = 0 then (if t121 = 258 then ((wimplelaw0_Num.f t122).bind fun t146 => (if t146 = 0 then (if t123.toList = ([0, 5, 1, 109, 0] : List UInt8) then ((wimplelaw0_Num.f t124).bind fun t147 => (if t147 = 0 then (if t125.toList = ([1, 109, 0] : List UInt8) then ((wimplelaw0_Num.f t126).bind fun t148 => (if t148 = 0 then (if (t127.size : Int) = 22 then ((wimplelaw0_Num.f t128).bind fun t149 => (if t149 = 0 then (if t135 = 7 then ((wimplelaw0_Num.f t136).bind fun t150 => (if t150 = 0 then (if bt141.1.toList = ([2, 97, 98, 0] : List UInt8) then ((wimplelaw0_Num.f bt141.2).bind fun t151 => (if t151 = 0 then ((wimplelaw0_Num.f bt143.2).bind fun t152 => (if t152 = 400 then ((rdata_May.f 1 t119).bind fun t153 => (if t153 = true then ((rdata_May.f 1 (⟨#[]⟩ : ByteArray)).bind fun t154 => (if t154 = true then (none) else ((rdata_May.f 0 (⟨#[]⟩ : ByteArray)).bind fun t155 => (some (!t155))))) else (none))) else (none))) else (none))) else (none)) else (none))) else (none)) else (none))) else (none)) else (none))) else (none)) else (none))) else (none)) else (none))) else (none)) else (none))) else (none)))) = some r := H
  have A6 := Aside0.mk A60
  clear A60
  obtain ⟨y138, hy138⟩ : ∃ y_ : List ByteArray, y_ = (([(⟨#[97, 98]⟩ : ByteArray), (⟨#[]⟩ : ByteArray)] : List ByteArray)) := ⟨_, rfl⟩
  replace H : ((rdata_Txt.f k y138).bind fun bt141 => ((rdata_A.f (-1)).bind fun bt143 => (if t119.toList = ([0, 0, 1, 2] : List UInt8) then ((wimplelaw0_Num.f t120).bind fun t145 => (if t145 = 0 then (if t121 = 258 then ((wimplelaw0_Num.f t122).bind fun t146 => (if t146 = 0 then (if t123.toList = ([0, 5, 1, 109, 0] : List UInt8) then ((wimplelaw0_Num.f t124).bind fun t147 => (if t147 = 0 then (if t125.toList = ([1, 109, 0] : List UInt8) then ((wimplelaw0_Num.f t126).bind fun t148 => (if t148 = 0 then (if (t127.size : Int) = 22 then ((wimplelaw0_Num.f t128).bind fun t149 => (if t149 = 0 then (if t135 = 7 then ((wimplelaw0_Num.f t136).bind fun t150 => (if t150 = 0 then (if bt141.1.toList = ([2, 97, 98, 0] : List UInt8) then ((wimplelaw0_Num.f bt141.2).bind fun t151 => (if t151 = 0 then ((wimplelaw0_Num.f bt143.2).bind fun t152 => (if t152 = 400 then ((rdata_May.f 1 t119).bind fun t153 => (if t153 = true then ((rdata_May.f 1 (⟨#[]⟩ : ByteArray)).bind fun t154 => (if t154 = true then (none) else ((rdata_May.f 0 (⟨#[]⟩ : ByteArray)).bind fun t155 => (some (!t155))))) else (none))) else (none))) else (none))) else (none)) else (none))) else (none)) else (none))) else (none)) else (none))) else (none)) else (none))) else (none)) else (none))) else (none)) else (none))) else (none)))) = some r := by first | (rw [hy138]; with_reducible exact H) | (have H2_ := (Option.bind_some _ _).symm.trans H; rw [hy138]; with_reducible exact H2_) | (have H2_ := (Option.bind_some _ _).symm.trans H; with_reducible exact H2_) | with_reducible exact H | (rw [hy138]; exact H) | exact H
  have Ny138 := Aside0.mk hy138
  clear hy138
  replace H := Option.bind_eq_some_iff.mp H
  obtain ⟨⟨t141, t142⟩, A70, H⟩ := H
  replace H : ((rdata_A.f (-1)).bind fun bt143 => (if t119.toList = ([0, 0, 1, 2] : List UInt8) then ((wimplelaw0_Num.f t120).bind fun t145 => (if t145 = 0 then (if t121 = 258 then ((wimplelaw0_Num.f t122).bind fun t146 => (if t146 = 0 then (if t123.toList = ([0, 5, 1, 109, 0] : List UInt8) then ((wimplelaw0_Num.f t124).bind fun t147 => (if t147 = 0 then (if t125.toList = ([1, 109, 0] : List UInt8) then ((wimplelaw0_Num.f t126).bind fun t148 => (if t148 = 0 then (if (t127.size : Int) = 22 then ((wimplelaw0_Num.f t128).bind fun t149 => (if t149 = 0 then (if t135 = 7 then ((wimplelaw0_Num.f t136).bind fun t150 => (if t150 = 0 then (if t141.toList = ([2, 97, 98, 0] : List UInt8) then ((wimplelaw0_Num.f t142).bind fun t151 => (if t151 = 0 then ((wimplelaw0_Num.f bt143.2).bind fun t152 => (if t152 = 400 then ((rdata_May.f 1 t119).bind fun t153 => (if t153 = true then ((rdata_May.f 1 (⟨#[]⟩ : ByteArray)).bind fun t154 => (if t154 = true then (none) else ((rdata_May.f 0 (⟨#[]⟩ : ByteArray)).bind fun t155 => (some (!t155))))) else (none))) else (none))) else (none))) else (none)) else (none))) else (none)) else (none))) else (none)) else (none))) else (none)) else (none))) else (none)) else (none))) else (none)) else (none))) else (none))) = some r := H
  have A7 := Aside0.mk A70
  clear A70
  replace H := Option.bind_eq_some_iff.mp H
  obtain ⟨⟨t143, t144⟩, A80, H⟩ := H
  replace H : (if t119.toList = ([0, 0, 1, 2] : List UInt8) then ((wimplelaw0_Num.f t120).bind fun t145 => (if t145 = 0 then (if t121 = 258 then ((wimplelaw0_Num.f t122).bind fun t146 => (if t146 = 0 then (if t123.toList = ([0, 5, 1, 109, 0] : List UInt8) then ((wimplelaw0_Num.f t124).bind fun t147 => (if t147 = 0 then (if t125.toList = ([1, 109, 0] : List UInt8) then ((wimplelaw0_Num.f t126).bind fun t148 => (if t148 = 0 then (if (t127.size : Int) = 22 then ((wimplelaw0_Num.f t128).bind fun t149 => (if t149 = 0 then (if t135 = 7 then ((wimplelaw0_Num.f t136).bind fun t150 => (if t150 = 0 then (if t141.toList = ([2, 97, 98, 0] : List UInt8) then ((wimplelaw0_Num.f t142).bind fun t151 => (if t151 = 0 then ((wimplelaw0_Num.f t144).bind fun t152 => (if t152 = 400 then ((rdata_May.f 1 t119).bind fun t153 => (if t153 = true then ((rdata_May.f 1 (⟨#[]⟩ : ByteArray)).bind fun t154 => (if t154 = true then (none) else ((rdata_May.f 0 (⟨#[]⟩ : ByteArray)).bind fun t155 => (some (!t155))))) else (none))) else (none))) else (none))) else (none)) else (none))) else (none)) else (none))) else (none)) else (none))) else (none)) else (none))) else (none)) else (none))) else (none)) else (none))) else (none)) = some r := H
  have A8 := Aside0.mk A80
  clear A80
  by_cases c9 : t119.toList = ([0, 0, 1, 2] : List UInt8)
  · rw [if_pos c9] at H
    have c9b0 : (t119.toList == ([0, 0, 1, 2] : List UInt8)) = true := beq_iff_eq.mpr c9
    have c9b1 : (t119.toList != ([0, 0, 1, 2] : List UInt8)) = false := bne_eq_false_iff_eq.mpr c9
    clear c9
    replace H := Option.bind_eq_some_iff.mp H
    obtain ⟨t145, A100, H⟩ := H
    replace H : (if t145 = 0 then (if t121 = 258 then ((wimplelaw0_Num.f t122).bind fun t146 => (if t146 = 0 then (if t123.toList = ([0, 5, 1, 109, 0] : List UInt8) then ((wimplelaw0_Num.f t124).bind fun t147 => (if t147 = 0 then (if t125.toList = ([1, 109, 0] : List UInt8) then ((wimplelaw0_Num.f t126).bind fun t148 => (if t148 = 0 then (if (t127.size : Int) = 22 then ((wimplelaw0_Num.f t128).bind fun t149 => (if t149 = 0 then (if t135 = 7 then ((wimplelaw0_Num.f t136).bind fun t150 => (if t150 = 0 then (if t141.toList = ([2, 97, 98, 0] : List UInt8) then ((wimplelaw0_Num.f t142).bind fun t151 => (if t151 = 0 then ((wimplelaw0_Num.f t144).bind fun t152 => (if t152 = 400 then ((rdata_May.f 1 t119).bind fun t153 => (if t153 = true then ((rdata_May.f 1 (⟨#[]⟩ : ByteArray)).bind fun t154 => (if t154 = true then (none) else ((rdata_May.f 0 (⟨#[]⟩ : ByteArray)).bind fun t155 => (some (!t155))))) else (none))) else (none))) else (none))) else (none)) else (none))) else (none)) else (none))) else (none)) else (none))) else (none)) else (none))) else (none)) else (none))) else (none)) else (none)) = some r := H
    have A10 := Aside0.mk A100
    clear A100
    by_cases c11 : t145 = 0
    · rw [if_pos c11] at H
      have c11b0 : (t145 == 0) = true := beq_iff_eq.mpr c11
      have c11b1 : (t145 != 0) = false := bne_eq_false_iff_eq.mpr c11
      clear c11
      by_cases c12 : t121 = 258
      · rw [if_pos c12] at H
        have c12b0 : (t121 == 258) = true := beq_iff_eq.mpr c12
        have c12b1 : (t121 != 258) = false := bne_eq_false_iff_eq.mpr c12
        clear c12
        replace H := Option.bind_eq_some_iff.mp H
        obtain ⟨t146, A130, H⟩ := H
        replace H : (if t146 = 0 then (if t123.toList = ([0, 5, 1, 109, 0] : List UInt8) then ((wimplelaw0_Num.f t124).bind fun t147 => (if t147 = 0 then (if t125.toList = ([1, 109, 0] : List UInt8) then ((wimplelaw0_Num.f t126).bind fun t148 => (if t148 = 0 then (if (t127.size : Int) = 22 then ((wimplelaw0_Num.f t128).bind fun t149 => (if t149 = 0 then (if t135 = 7 then ((wimplelaw0_Num.f t136).bind fun t150 => (if t150 = 0 then (if t141.toList = ([2, 97, 98, 0] : List UInt8) then ((wimplelaw0_Num.f t142).bind fun t151 => (if t151 = 0 then ((wimplelaw0_Num.f t144).bind fun t152 => (if t152 = 400 then ((rdata_May.f 1 t119).bind fun t153 => (if t153 = true then ((rdata_May.f 1 (⟨#[]⟩ : ByteArray)).bind fun t154 => (if t154 = true then (none) else ((rdata_May.f 0 (⟨#[]⟩ : ByteArray)).bind fun t155 => (some (!t155))))) else (none))) else (none))) else (none))) else (none)) else (none))) else (none)) else (none))) else (none)) else (none))) else (none)) else (none))) else (none)) else (none)) = some r := H
        have A13 := Aside0.mk A130
        clear A130
        by_cases c14 : t146 = 0
        · rw [if_pos c14] at H
          have c14b0 : (t146 == 0) = true := beq_iff_eq.mpr c14
          have c14b1 : (t146 != 0) = false := bne_eq_false_iff_eq.mpr c14
          clear c14
          by_cases c15 : t123.toList = ([0, 5, 1, 109, 0] : List UInt8)
          · rw [if_pos c15] at H
            have c15b0 : (t123.toList == ([0, 5, 1, 109, 0] : List UInt8)) = true := beq_iff_eq.mpr c15
            have c15b1 : (t123.toList != ([0, 5, 1, 109, 0] : List UInt8)) = false := bne_eq_false_iff_eq.mpr c15
            clear c15
            replace H := Option.bind_eq_some_iff.mp H
            obtain ⟨t147, A160, H⟩ := H
            replace H : (if t147 = 0 then (if t125.toList = ([1, 109, 0] : List UInt8) then ((wimplelaw0_Num.f t126).bind fun t148 => (if t148 = 0 then (if (t127.size : Int) = 22 then ((wimplelaw0_Num.f t128).bind fun t149 => (if t149 = 0 then (if t135 = 7 then ((wimplelaw0_Num.f t136).bind fun t150 => (if t150 = 0 then (if t141.toList = ([2, 97, 98, 0] : List UInt8) then ((wimplelaw0_Num.f t142).bind fun t151 => (if t151 = 0 then ((wimplelaw0_Num.f t144).bind fun t152 => (if t152 = 400 then ((rdata_May.f 1 t119).bind fun t153 => (if t153 = true then ((rdata_May.f 1 (⟨#[]⟩ : ByteArray)).bind fun t154 => (if t154 = true then (none) else ((rdata_May.f 0 (⟨#[]⟩ : ByteArray)).bind fun t155 => (some (!t155))))) else (none))) else (none))) else (none))) else (none)) else (none))) else (none)) else (none))) else (none)) else (none))) else (none)) else (none)) = some r := H
            have A16 := Aside0.mk A160
            clear A160
            by_cases c17 : t147 = 0
            · rw [if_pos c17] at H
              have c17b0 : (t147 == 0) = true := beq_iff_eq.mpr c17
              have c17b1 : (t147 != 0) = false := bne_eq_false_iff_eq.mpr c17
              clear c17
              by_cases c18 : t125.toList = ([1, 109, 0] : List UInt8)
              · rw [if_pos c18] at H
                have c18b0 : (t125.toList == ([1, 109, 0] : List UInt8)) = true := beq_iff_eq.mpr c18
                have c18b1 : (t125.toList != ([1, 109, 0] : List UInt8)) = false := bne_eq_false_iff_eq.mpr c18
                clear c18
                replace H := Option.bind_eq_some_iff.mp H
                obtain ⟨t148, A190, H⟩ := H
                replace H : (if t148 = 0 then (if (t127.size : Int) = 22 then ((wimplelaw0_Num.f t128).bind fun t149 => (if t149 = 0 then (if t135 = 7 then ((wimplelaw0_Num.f t136).bind fun t150 => (if t150 = 0 then (if t141.toList = ([2, 97, 98, 0] : List UInt8) then ((wimplelaw0_Num.f t142).bind fun t151 => (if t151 = 0 then ((wimplelaw0_Num.f t144).bind fun t152 => (if t152 = 400 then ((rdata_May.f 1 t119).bind fun t153 => (if t153 = true then ((rdata_May.f 1 (⟨#[]⟩ : ByteArray)).bind fun t154 => (if t154 = true then (none) else ((rdata_May.f 0 (⟨#[]⟩ : ByteArray)).bind fun t155 => (some (!t155))))) else (none))) else (none))) else (none))) else (none)) else (none))) else (none)) else (none))) else (none)) else (none)) = some r := H
                have A19 := Aside0.mk A190
                clear A190
                by_cases c20 : t148 = 0
                · rw [if_pos c20] at H
                  have c20b0 : (t148 == 0) = true := beq_iff_eq.mpr c20
                  have c20b1 : (t148 != 0) = false := bne_eq_false_iff_eq.mpr c20
                  clear c20
                  by_cases c21 : (t127.size : Int) = 22
                  · rw [if_pos c21] at H
                    have c21b0 : ((t127.size : Int) == 22) = true := beq_iff_eq.mpr c21
                    have c21b1 : ((t127.size : Int) != 22) = false := bne_eq_false_iff_eq.mpr c21
                    clear c21
                    replace H := Option.bind_eq_some_iff.mp H
                    obtain ⟨t149, A220, H⟩ := H
                    replace H : (if t149 = 0 then (if t135 = 7 then ((wimplelaw0_Num.f t136).bind fun t150 => (if t150 = 0 then (if t141.toList = ([2, 97, 98, 0] : List UInt8) then ((wimplelaw0_Num.f t142).bind fun t151 => (if t151 = 0 then ((wimplelaw0_Num.f t144).bind fun t152 => (if t152 = 400 then ((rdata_May.f 1 t119).bind fun t153 => (if t153 = true then ((rdata_May.f 1 (⟨#[]⟩ : ByteArray)).bind fun t154 => (if t154 = true then (none) else ((rdata_May.f 0 (⟨#[]⟩ : ByteArray)).bind fun t155 => (some (!t155))))) else (none))) else (none))) else (none))) else (none)) else (none))) else (none)) else (none)) = some r := H
                    have A22 := Aside0.mk A220
                    clear A220
                    by_cases c23 : t149 = 0
                    · rw [if_pos c23] at H
                      have c23b0 : (t149 == 0) = true := beq_iff_eq.mpr c23
                      have c23b1 : (t149 != 0) = false := bne_eq_false_iff_eq.mpr c23
                      clear c23
                      by_cases c24 : t135 = 7
                      · rw [if_pos c24] at H
                        have c24b0 : (t135 == 7) = true := beq_iff_eq.mpr c24
                        have c24b1 : (t135 != 7) = false := bne_eq_false_iff_eq.mpr c24
                        clear c24
                        replace H := Option.bind_eq_some_iff.mp H
                        obtain ⟨t150, A250, H⟩ := H
                        replace H : (if t150 = 0 then (if t141.toList = ([2, 97, 98, 0] : List UInt8) then ((wimplelaw0_Num.f t142).bind fun t151 => (if t151 = 0 then ((wimplelaw0_Num.f t144).bind fun t152 => (if t152 = 400 then ((rdata_May.f 1 t119).bind fun t153 => (if t153 = true then ((rdata_May.f 1 (⟨#[]⟩ : ByteArray)).bind fun t154 => (if t154 = true then (none) else ((rdata_May.f 0 (⟨#[]⟩ : ByteArray)).bind fun t155 => (some (!t155))))) else (none))) else (none))) else (none))) else (none)) else (none)) = some r := H
                        have A25 := Aside0.mk A250
                        clear A250
                        by_cases c26 : t150 = 0
                        · rw [if_pos c26] at H
                          have c26b0 : (t150 == 0) = true := beq_iff_eq.mpr c26
                          have c26b1 : (t150 != 0) = false := bne_eq_false_iff_eq.mpr c26
                          clear c26
                          by_cases c27 : t141.toList = ([2, 97, 98, 0] : List UInt8)
                          · rw [if_pos c27] at H
                            have c27b0 : (t141.toList == ([2, 97, 98, 0] : List UInt8)) = true := beq_iff_eq.mpr c27
                            have c27b1 : (t141.toList != ([2, 97, 98, 0] : List UInt8)) = false := bne_eq_false_iff_eq.mpr c27
                            clear c27
                            replace H := Option.bind_eq_some_iff.mp H
                            obtain ⟨t151, A280, H⟩ := H
                            replace H : (if t151 = 0 then ((wimplelaw0_Num.f t144).bind fun t152 => (if t152 = 400 then ((rdata_May.f 1 t119).bind fun t153 => (if t153 = true then ((rdata_May.f 1 (⟨#[]⟩ : ByteArray)).bind fun t154 => (if t154 = true then (none) else ((rdata_May.f 0 (⟨#[]⟩ : ByteArray)).bind fun t155 => (some (!t155))))) else (none))) else (none))) else (none)) = some r := H
                            have A28 := Aside0.mk A280
                            clear A280
                            by_cases c29 : t151 = 0
                            · rw [if_pos c29] at H
                              have c29b0 : (t151 == 0) = true := beq_iff_eq.mpr c29
                              have c29b1 : (t151 != 0) = false := bne_eq_false_iff_eq.mpr c29
                              clear c29
                              replace H := Option.bind_eq_some_iff.mp H
                              obtain ⟨t152, A300, H⟩ := H
                              replace H : (if t152 = 400 then ((rdata_May.f 1 t119).bind fun t153 => (if t153 = true then ((rdata_May.f 1 (⟨#[]⟩ : ByteArray)).bind fun t154 => (if t154 = true then (none) else ((rdata_May.f 0 (⟨#[]⟩ : ByteArray)).bind fun t155 => (some (!t155))))) else (none))) else (none)) = some r := H
                              have A30 := Aside0.mk A300
                              clear A300
                              by_cases c31 : t152 = 400
                              · rw [if_pos c31] at H
                                have c31b0 : (t152 == 400) = true := beq_iff_eq.mpr c31
                                have c31b1 : (t152 != 400) = false := bne_eq_false_iff_eq.mpr c31
                                clear c31
                                replace H := Option.bind_eq_some_iff.mp H
                                obtain ⟨t153, A320, H⟩ := H
                                replace H : (if t153 = true then ((rdata_May.f 1 (⟨#[]⟩ : ByteArray)).bind fun t154 => (if t154 = true then (none) else ((rdata_May.f 0 (⟨#[]⟩ : ByteArray)).bind fun t155 => (some (!t155))))) else (none)) = some r := H
                                have A32 := Aside0.mk A320
                                clear A320
                                by_cases c33 : t153 = true
                                · subst c33
                                  have H1 : ((rdata_May.f 1 (⟨#[]⟩ : ByteArray)).bind fun t154 => (if t154 = true then (none) else ((rdata_May.f 0 (⟨#[]⟩ : ByteArray)).bind fun t155 => (some (!t155))))) = some r := by rw [if_pos rfl] at H; exact H
                                  clear H
                                  have H := H1
                                  clear H1
                                  replace H := Option.bind_eq_some_iff.mp H
                                  obtain ⟨t154, A340, H⟩ := H
                                  replace H : (if t154 = true then (none) else ((rdata_May.f 0 (⟨#[]⟩ : ByteArray)).bind fun t155 => (some (!t155)))) = some r := H
                                  have A34 := Aside0.mk A340
                                  clear A340
                                  by_cases c35 : t154 = true
                                  · subst c35
                                    have H1 : (none) = some r := by rw [if_pos rfl] at H; exact H
                                    clear H
                                    have H := H1
                                    clear H1
                                    exact absurd H (by simp)
                                  · replace c35 := Bool.eq_false_iff.mpr c35
                                    subst c35
                                    have H1 : ((rdata_May.f 0 (⟨#[]⟩ : ByteArray)).bind fun t155 => (some (!t155))) = some r := by rw [if_neg (show ¬ (false = true) by decide)] at H; exact H
                                    clear H
                                    have H := H1
                                    clear H1
                                    replace H := Option.bind_eq_some_iff.mp H
                                    obtain ⟨t155, A360, H⟩ := H
                                    replace H : (some (!t155)) = some r := H
                                    have A36 := Aside0.mk A360
                                    clear A360
                                    obtain rfl := Option.some.inj H
                                    go_enter Try.func43, Try.ntmps43
                                    go_wp2_with (first | ((with_reducible refine gate_dst (N := 18) rfl ?_); (try (refine gate_guard (by rfl) ?_; dsimp only)); (with_reducible refine gate_callee (f := 25) rfl ?_); refine goesL_ (some 18) rfl rfl Try.func25 (by kernel_rfl) rfl #[.int .i64 258] rfl (by (try simp only [List.map_toArray, List.map_cons, List.map_nil]); first | done | rfl | (simp only [List.length_drop, List.length_take]; rfl)) ?_; (with_reducible refine (rdata_A.calls 258 t119 t120 _ A1.out).mono ?_); rintro e w37 ⟨rfl, hb⟩; refine ⟨_, rfl, ?_⟩; have n0_ := Aside0.mk (below_step (by repeat (first | (with_reducible first | exact HB.out | apply below_alloc | apply pw_below_drewN | apply below_drew1) | exact HB.out)) hb); clear HB; have HB := n0_; clear n0_; (try clear hb); (try clear hb2); (try clear hk); (try clear hi)) | ((with_reducible refine gate_dst (N := 23) rfl ?_); (try (refine gate_guard (by rfl) ?_; dsimp only)); (with_reducible refine gate_callee (f := 27) rfl ?_); refine goesL_ (some 23) rfl rfl Try.func27 (by kernel_rfl) rfl #[.string t119] rfl (by (try simp only [List.map_toArray, List.map_cons, List.map_nil]); first | done | rfl | (simp only [List.length_drop, List.length_take]; rfl)) ?_; (with_reducible refine (rdata_Addr.calls t119 t121 t122 _ A2.out).mono ?_); rintro e w38 ⟨rfl, hb⟩; refine ⟨_, rfl, ?_⟩; have n0_ := Aside0.mk (below_step (by repeat (first | (with_reducible first | exact HB.out | apply below_alloc | apply pw_below_drewN | apply below_drew1) | exact HB.out)) hb); clear HB; have HB := n0_; clear n0_; (try clear hb); (try clear hb2); (try clear hk); (try clear hi)) | ((with_reducible refine gate_dst (N := 27) rfl ?_); (try (refine gate_guard (by rfl) ?_; dsimp only)); (with_reducible refine gate_callee (f := 29) rfl ?_); refine goesL_ (some 27) rfl rfl Try.func29 (by kernel_rfl) rfl #[.int .i64 5, .string (⟨#[1, 109, 0]⟩ : ByteArray)] rfl (by (try simp only [List.map_toArray, List.map_cons, List.map_nil]); first | done | rfl | (simp only [List.length_drop, List.length_take]; rfl)) ?_; (with_reducible refine (rdata_Mx.calls 5 (⟨#[1, 109, 0]⟩ : ByteArray) t123 t124 _ A3.out).mono ?_); rintro e w39 ⟨rfl, hb⟩; refine ⟨_, rfl, ?_⟩; have n0_ := Aside0.mk (below_step (by repeat (first | (with_reducible first | exact HB.out | apply below_alloc | apply pw_below_drewN | apply below_drew1) | exact HB.out)) hb); clear HB; have HB := n0_; clear n0_; (try clear hb); (try clear hb2); (try clear hk); (try clear hi)) | ((with_reducible refine gate_dst (N := 32) rfl ?_); (try (refine gate_guard (by rfl) ?_; dsimp only)); (with_reducible refine gate_callee (f := 31) rfl ?_); refine goesL_ (some 32) rfl rfl Try.func31 (by kernel_rfl) rfl #[.int .i64 15, .string t123] rfl (by (try simp only [List.map_toArray, List.map_cons, List.map_nil]); first | done | rfl | (simp only [List.length_drop, List.length_take]; rfl)) ?_; (with_reducible refine (rdata_Host.calls 15 t123 t125 t126 _ A4.out).mono ?_); rintro e w40 ⟨rfl, hb⟩; refine ⟨_, rfl, ?_⟩; have n0_ := Aside0.mk (below_step (by repeat (first | (with_reducible first | exact HB.out | apply below_alloc | apply pw_below_drewN | apply below_drew1) | exact HB.out)) hb); clear HB; have HB := n0_; clear n0_; (try clear hb); (try clear hb2); (try clear hk); (try clear hi)) | ((with_reducible refine gate_dst (N := 37) rfl ?_); (try (refine gate_guard (by rfl) ?_; dsimp only)); (with_reducible refine gate_callee (f := 35) rfl ?_); refine goesL_ (some 37) rfl rfl Try.func35 (by kernel_rfl) rfl #[.agg #[.string (⟨#[0]⟩ : ByteArray), .string (⟨#[0]⟩ : ByteArray), .int .i64 0, .int .i64 0, .int .i64 0, .int .i64 0, .int .i64 7]] rfl (by (try simp only [List.map_toArray, List.map_cons, List.map_nil]); first | done | rfl | (simp only [List.length_drop, List.length_take]; rfl)) ?_; (with_reducible refine (rdata_Soa.calls (⟨#[0]⟩ : ByteArray) (⟨#[0]⟩ : ByteArray) 0 0 0 0 7 t127 t128 _ A5.out).mono ?_); rintro e w41 ⟨rfl, hb⟩; refine ⟨_, rfl, ?_⟩; have n0_ := Aside0.mk (below_step (by repeat (first | (with_reducible first | exact HB.out | apply below_alloc | apply pw_below_drewN | apply below_drew1) | exact HB.out)) hb); clear HB; have HB := n0_; clear n0_; (try clear hb); (try clear hb2); (try clear hk); (try clear hi)) | ((with_reducible refine gate_dst (N := 42) rfl ?_); (try (refine gate_guard (by rfl) ?_; dsimp only)); (with_reducible refine gate_callee (f := 37) rfl ?_); refine goesL_ (some 42) rfl rfl Try.func37 (by kernel_rfl) rfl #[.string t127] rfl (by (try simp only [List.map_toArray, List.map_cons, List.map_nil]); first | done | rfl | (simp only [List.length_drop, List.length_take]; rfl)) ?_; (with_reducible refine (rdata_Unsoa.calls t127 t129 t130 t131 t132 t133 t134 t135 t136 _ A6.out).mono ?_); rintro e w42 ⟨rfl, hb⟩; refine ⟨_, rfl, ?_⟩; have n0_ := Aside0.mk (below_step (by repeat (first | (with_reducible first | exact HB.out | apply below_alloc | apply pw_below_drewN | apply below_drew1) | exact HB.out)) hb); clear HB; have HB := n0_; clear n0_; (try clear hb); (try clear hb2); (try clear hk); (try clear hi)) | ((with_reducible refine gate_dst (N := 11) rfl ?_); (try (refine gate_guard (by rfl) ?_; dsimp only)); refine box_event ?hg (N := 11) ?hd (cs := #[.string (⟨#[]⟩ : ByteArray), .string (⟨#[]⟩ : ByteArray), .int .i64 0, .int .i64 0, .int .i64 0, .int .i64 0, .int .i64 0]) (t := 59) ?hr ?_; (case hd => rfl); (case hg => rfl); (case hr => first | (go_simp; done) | (go_simp; rfl)); intro gb137 hg w43 hbox hb; have n0_ := Aside0.mk (below_step (by repeat (first | (with_reducible first | exact HB.out | apply below_alloc | apply pw_below_drewN | apply below_drew1) | exact HB.out)) hb); have n1_ := Aside0.mk (hbox); have n2_ := Aside0.mk ((by rw [hg]; exact (below_size (by repeat (first | (with_reducible first | exact HB.out | apply below_alloc | apply pw_below_drewN | apply below_drew1) | exact HB.out))) : w.heap.size ≤ gb137)); have n3_ := Aside0.mk ((by rw [hg]; exact (below_size (by repeat (first | (with_reducible first | exact HB.out | apply below_alloc | apply pw_below_drewN | apply below_drew1) | exact HB.out))) : w.heap.size ≤ gb137)); clear HB; have HB := n0_; have BK137 := n1_; have GW137 := n2_; have GE137 := n3_; clear n0_ n1_ n2_ n3_; clear hb hbox hg; have hcz44_0 : w43.cell? ⟨gb137, 0, none⟩ = some (.string (⟨#[]⟩ : ByteArray)) := (blk_cell BK137.out 0).trans rfl; have hcz44_1 : w43.cell? ⟨gb137, 1, none⟩ = some (.string (⟨#[]⟩ : ByteArray)) := (blk_cell BK137.out 1).trans rfl; have hcz44_2 : w43.cell? ⟨gb137, 2, none⟩ = some (.int .i64 0) := (blk_cell BK137.out 2).trans rfl; have hcz44_3 : w43.cell? ⟨gb137, 3, none⟩ = some (.int .i64 0) := (blk_cell BK137.out 3).trans rfl; have hcz44_4 : w43.cell? ⟨gb137, 4, none⟩ = some (.int .i64 0) := (blk_cell BK137.out 4).trans rfl; have hcz44_5 : w43.cell? ⟨gb137, 5, none⟩ = some (.int .i64 0) := (blk_cell BK137.out 5).trans rfl; have hcz44_6 : w43.cell? ⟨gb137, 6, none⟩ = some (.int .i64 0) := (blk_cell BK137.out 6).trans rfl; have hfz44_0 := blk_frozen BK137.out 0; have hfz44_1 := blk_frozen BK137.out 1; have hfz44_2 := blk_frozen BK137.out 2; have hfz44_3 := blk_frozen BK137.out 3; have hfz44_4 := blk_frozen BK137.out 4; have hfz44_5 := blk_frozen BK137.out 5; have hfz44_6 := blk_frozen BK137.out 6) | ((with_reducible refine gate_dst (N := 46) rfl ?_); (try (refine gate_guard (by rfl) ?_; dsimp only)); refine Kd.R_lit Kd.string _ 9 ?hg (N := 46) ?hd (xs := ([(⟨#[97, 98]⟩ : ByteArray), (⟨#[]⟩ : ByteArray)] : List ByteArray)) (inner := [.string (⟨#[97, 98]⟩ : ByteArray), .string (⟨#[]⟩ : ByteArray)]) (ok := fun _ => True) (okp := fun _ => True) ?hr ?hp (fun _ hk => hk) trivial (Below.refl _ _) (Nat.le_refl _) (by simp) ?_; (case hd => rfl); (case hg => rfl); (case hr => first | (go_simp; done) | (go_simp; rfl)); (case hp => exact (Reps.one (show Kd.M Kd.string _ _ _ (⟨#[97, 98]⟩ : ByteArray) [.string (⟨#[97, 98]⟩ : ByteArray)] from rfl) (Reps.one (show Kd.M Kd.string _ _ _ (⟨#[]⟩ : ByteArray) [.string (⟨#[]⟩ : ByteArray)] from rfl) (Reps.none _ _)))); intro v139 w45 ho46 hb hg_ hnew_; clear hg_ hnew_; (first | rw [← Ny138.out] at ho46 | (simp only [Int.reduceToNat] at ho46; rw [← Ny138.out] at ho46)); have n0_ := Aside0.mk (Kd.R_lower ho46 (below_size (by repeat (first | (with_reducible first | exact HB.out | apply below_alloc | apply pw_below_drewN | apply below_drew1 | refine below_set ?_ GE137.out) | exact HB.out)))); have n1_ := Aside0.mk (blk_below (g := gb137) (o := .cells #[.string t129, .string t130, .int .i64 t131, .int .i64 t132, .int .i64 t133, .int .i64 t134, .int .i64 t135] 59 (0, 0)) (by (with_reducible repeat (first | refine blk_drewN ?_ _ | refine blk_drew ?_ | refine blk_alloc ?_ _)); refine blk_put (cs := #[.string t129, .string t130, .int .i64 t131, .int .i64 t132, .int .i64 t133, .int .i64 t134, .int .i64 0]) ?_ 6 _ rfl; (with_reducible repeat (first | refine blk_drewN ?_ _ | refine blk_drew ?_ | refine blk_alloc ?_ _)); refine blk_put (cs := #[.string t129, .string t130, .int .i64 t131, .int .i64 t132, .int .i64 t133, .int .i64 0, .int .i64 0]) ?_ 5 _ rfl; (with_reducible repeat (first | refine blk_drewN ?_ _ | refine blk_drew ?_ | refine blk_alloc ?_ _)); refine blk_put (cs := #[.string t129, .string t130, .int .i64 t131, .int .i64 t132, .int .i64 0, .int .i64 0, .int .i64 0]) ?_ 4 _ rfl; (with_reducible repeat (first | refine blk_drewN ?_ _ | refine blk_drew ?_ | refine blk_alloc ?_ _)); refine blk_put (cs := #[.string t129, .string t130, .int .i64 t131, .int .i64 0, .int .i64 0, .int .i64 0, .int .i64 0]) ?_ 3 _ rfl; (with_reducible repeat (first | refine blk_drewN ?_ _ | refine blk_drew ?_ | refine blk_alloc ?_ _)); refine blk_put (cs := #[.string t129, .string t130, .int .i64 0, .int .i64 0, .int .i64 0, .int .i64 0, .int .i64 0]) ?_ 2 _ rfl; (with_reducible repeat (first | refine blk_drewN ?_ _ | refine blk_drew ?_ | refine blk_alloc ?_ _)); refine blk_put (cs := #[.string t129, .string (⟨#[]⟩ : ByteArray), .int .i64 0, .int .i64 0, .int .i64 0, .int .i64 0, .int .i64 0]) ?_ 1 _ rfl; (with_reducible repeat (first | refine blk_drewN ?_ _ | refine blk_drew ?_ | refine blk_alloc ?_ _)); refine blk_put (cs := #[.string (⟨#[]⟩ : ByteArray), .string (⟨#[]⟩ : ByteArray), .int .i64 0, .int .i64 0, .int .i64 0, .int .i64 0, .int .i64 0]) ?_ 0 _ rfl; (with_reducible repeat (first | refine blk_drewN ?_ _ | refine blk_drew ?_ | refine blk_alloc ?_ _)); exact BK137.out) hb); have n2_ := Aside0.mk (below_step (by repeat (first | (with_reducible first | exact HB.out | apply below_alloc | apply pw_below_drewN | apply below_drew1 | refine below_set ?_ GE137.out) | exact HB.out)) hb); clear BK137; clear HB; have HO140 := n0_; have BK137 := n1_; have HB := n2_; clear n0_ n1_ n2_; clear hb ho46; obtain ⟨Ao47, co47, eo47⟩ := Kd.R_slice HO140.out; subst eo47) | ((with_reducible refine gate_dst (N := 47) rfl ?_); (try (refine gate_guard (by rfl) ?_; dsimp only)); (with_reducible refine gate_callee (f := 40) rfl ?_); refine goesL_ (some 47) rfl rfl Try.func40 (by kernel_rfl) rfl #[.slice Ao47 y138.length co47] rfl (by (try simp only [List.map_toArray, List.map_cons, List.map_nil]); first | done | rfl | (simp only [List.length_drop, List.length_take]; rfl)) ?_; (with_reducible refine (rdata_Txt.calls k _ _ y138 t141 t142 _ ?side1 ?side2 A7.out).mono ?_); (case side1 => repeat (first | exact (Kd.R_reads' HO140.out).2.2 | (with_reducible refine Kd.C_alloc ?_ _) | (with_reducible refine Kd.C_drewN ?_ _) | (with_reducible refine Kd.C_drew ?_))); (case side2 => exact (Kd.R_reads' HO140.out).2.1); rintro e w48 ⟨rfl, hb⟩; refine ⟨_, rfl, ?_⟩; have n0_ := Aside0.mk (Kd.R_below (by (with_reducible repeat (first | apply Kd.R_alloc | apply Kd.R_drewN | apply Kd.R_drew)); exact HO140.out) hb); have n1_ := Aside0.mk (blk_below (g := gb137) (o := .cells #[.string t129, .string t130, .int .i64 t131, .int .i64 t132, .int .i64 t133, .int .i64 t134, .int .i64 t135] 59 (0, 0)) (by (with_reducible repeat (first | refine blk_drewN ?_ _ | refine blk_drew ?_ | refine blk_alloc ?_ _)); exact BK137.out) hb); have n2_ := Aside0.mk (below_step (by repeat (first | (with_reducible first | exact HB.out | apply below_alloc | apply pw_below_drewN | apply below_drew1 | refine below_set ?_ GE137.out) | exact HB.out)) hb); clear HO140; clear BK137; clear HB; have HO140 := n0_; have BK137 := n1_; have HB := n2_; clear n0_ n1_ n2_; (try clear hb); (try clear hb2); (try clear hk); (try clear hi)) | ((with_reducible refine gate_dst (N := 51) rfl ?_); (try (refine gate_guard (by rfl) ?_; dsimp only)); (with_reducible refine gate_callee (f := 25) rfl ?_); refine goesL_ (some 51) rfl rfl Try.func25 (by kernel_rfl) rfl #[.int .i64 (-1)] rfl (by (try simp only [List.map_toArray, List.map_cons, List.map_nil]); first | done | rfl | (simp only [List.length_drop, List.length_take]; rfl)) ?_; (with_reducible refine (rdata_A.calls (-1) t143 t144 _ A8.out).mono ?_); rintro e w49 ⟨rfl, hb⟩; refine ⟨_, rfl, ?_⟩; have n0_ := Aside0.mk (Kd.R_below (by (with_reducible repeat (first | apply Kd.R_alloc | apply Kd.R_drewN | apply Kd.R_drew)); exact HO140.out) hb); have n1_ := Aside0.mk (blk_below (g := gb137) (o := .cells #[.string t129, .string t130, .int .i64 t131, .int .i64 t132, .int .i64 t133, .int .i64 t134, .int .i64 t135] 59 (0, 0)) (by (with_reducible repeat (first | refine blk_drewN ?_ _ | refine blk_drew ?_ | refine blk_alloc ?_ _)); exact BK137.out) hb); have n2_ := Aside0.mk (below_step (by repeat (first | (with_reducible first | exact HB.out | apply below_alloc | apply pw_below_drewN | apply below_drew1 | refine below_set ?_ GE137.out) | exact HB.out)) hb); clear HO140; clear BK137; clear HB; have HO140 := n0_; have BK137 := n1_; have HB := n2_; clear n0_ n1_ n2_; (try clear hb); (try clear hb2); (try clear hk); (try clear hi)) | (go_at_call 20; (with_reducible refine (wimplelaw0_Num.calls t120 t145 _ A10.out).mono ?_); rintro e w' ⟨rfl, ⟨nd, rfl⟩⟩) | (go_at_call 20; (with_reducible refine (wimplelaw0_Num.calls t122 t146 _ A13.out).mono ?_); rintro e w' ⟨rfl, ⟨nd, rfl⟩⟩) | (go_at_call 20; (with_reducible refine (wimplelaw0_Num.calls t124 t147 _ A16.out).mono ?_); rintro e w' ⟨rfl, ⟨nd, rfl⟩⟩) | (go_at_call 20; (with_reducible refine (wimplelaw0_Num.calls t126 t148 _ A19.out).mono ?_); rintro e w' ⟨rfl, ⟨nd, rfl⟩⟩) | (go_at_call 20; (with_reducible refine (wimplelaw0_Num.calls t128 t149 _ A22.out).mono ?_); rintro e w' ⟨rfl, ⟨nd, rfl⟩⟩; (try clear hcz44_0 hcz44_1 hcz44_2 hcz44_3 hcz44_4 hcz44_5 hcz44_6 hfz44_0 hfz44_1 hfz44_2 hfz44_3 hfz44_4 hfz44_5 hfz44_6); have hcz50_0 : w49.cell? ⟨gb137, 0, none⟩ = some (.string t129) := (blk_cell BK137.out 0).trans rfl; have hcz50_1 : w49.cell? ⟨gb137, 1, none⟩ = some (.string t130) := (blk_cell BK137.out 1).trans rfl; have hcz50_2 : w49.cell? ⟨gb137, 2, none⟩ = some (.int .i64 t131) := (blk_cell BK137.out 2).trans rfl; have hcz50_3 : w49.cell? ⟨gb137, 3, none⟩ = some (.int .i64 t132) := (blk_cell BK137.out 3).trans rfl; have hcz50_4 : w49.cell? ⟨gb137, 4, none⟩ = some (.int .i64 t133) := (blk_cell BK137.out 4).trans rfl; have hcz50_5 : w49.cell? ⟨gb137, 5, none⟩ = some (.int .i64 t134) := (blk_cell BK137.out 5).trans rfl; have hcz50_6 : w49.cell? ⟨gb137, 6, none⟩ = some (.int .i64 t135) := (blk_cell BK137.out 6).trans rfl; have hfz50_0 := blk_frozen BK137.out 0; have hfz50_1 := blk_frozen BK137.out 1; have hfz50_2 := blk_frozen BK137.out 2; have hfz50_3 := blk_frozen BK137.out 3; have hfz50_4 := blk_frozen BK137.out 4; have hfz50_5 := blk_frozen BK137.out 5; have hfz50_6 := blk_frozen BK137.out 6) | (go_at_call 20; (with_reducible refine (wimplelaw0_Num.calls t136 t150 _ A25.out).mono ?_); rintro e w' ⟨rfl, ⟨nd, rfl⟩⟩) | (go_at_call 20; (with_reducible refine (wimplelaw0_Num.calls t142 t151 _ A28.out).mono ?_); rintro e w' ⟨rfl, ⟨nd, rfl⟩⟩) | (go_at_call 20; (with_reducible refine (wimplelaw0_Num.calls t144 t152 _ A30.out).mono ?_); rintro e w' ⟨rfl, ⟨nd, rfl⟩⟩) | (go_at_call 33; (with_reducible refine (rdata_May.calls 1 t119 true _ A32.out).mono ?_); rintro e w51 ⟨rfl, hb⟩; have n0_ := Aside0.mk (Kd.R_below (by (with_reducible repeat (first | apply Kd.R_alloc | apply Kd.R_drewN | apply Kd.R_drew)); exact HO140.out) hb); have n1_ := Aside0.mk (blk_below (g := gb137) (o := .cells #[.string t129, .string t130, .int .i64 t131, .int .i64 t132, .int .i64 t133, .int .i64 t134, .int .i64 t135] 59 (0, 0)) (by (with_reducible repeat (first | refine blk_drewN ?_ _ | refine blk_drew ?_ | refine blk_alloc ?_ _)); exact BK137.out) hb); have n2_ := Aside0.mk (below_step (by repeat (first | (with_reducible first | exact HB.out | apply below_alloc | apply pw_below_drewN | apply below_drew1 | refine below_set ?_ GE137.out) | exact HB.out)) hb); clear HO140; clear BK137; clear HB; have HO140 := n0_; have BK137 := n1_; have HB := n2_; clear n0_ n1_ n2_; (try clear hb); (try clear hb2); (try clear hk); (try clear hi)) | (go_at_call 33; (with_reducible refine (rdata_May.calls 1 (⟨#[]⟩ : ByteArray) false _ A34.out).mono ?_); rintro e w52 ⟨rfl, hb⟩; have n0_ := Aside0.mk (Kd.R_below (by (with_reducible repeat (first | apply Kd.R_alloc | apply Kd.R_drewN | apply Kd.R_drew)); exact HO140.out) hb); have n1_ := Aside0.mk (blk_below (g := gb137) (o := .cells #[.string t129, .string t130, .int .i64 t131, .int .i64 t132, .int .i64 t133, .int .i64 t134, .int .i64 t135] 59 (0, 0)) (by (with_reducible repeat (first | refine blk_drewN ?_ _ | refine blk_drew ?_ | refine blk_alloc ?_ _)); exact BK137.out) hb); have n2_ := Aside0.mk (below_step (by repeat (first | (with_reducible first | exact HB.out | apply below_alloc | apply pw_below_drewN | apply below_drew1 | refine below_set ?_ GE137.out) | exact HB.out)) hb); clear HO140; clear BK137; clear HB; have HO140 := n0_; have BK137 := n1_; have HB := n2_; clear n0_ n1_ n2_; (try clear hb); (try clear hb2); (try clear hk); (try clear hi)) | (go_at_call 33; (with_reducible refine (rdata_May.calls 0 (⟨#[]⟩ : ByteArray) t155 _ A36.out).mono ?_); rintro e w53 ⟨rfl, hb⟩; have n0_ := Aside0.mk (Kd.R_below (by (with_reducible repeat (first | apply Kd.R_alloc | apply Kd.R_drewN | apply Kd.R_drew)); exact HO140.out) hb); have n1_ := Aside0.mk (blk_below (g := gb137) (o := .cells #[.string t129, .string t130, .int .i64 t131, .int .i64 t132, .int .i64 t133, .int .i64 t134, .int .i64 t135] 59 (0, 0)) (by (with_reducible repeat (first | refine blk_drewN ?_ _ | refine blk_drew ?_ | refine blk_alloc ?_ _)); exact BK137.out) hb); have n2_ := Aside0.mk (below_step (by repeat (first | (with_reducible first | exact HB.out | apply below_alloc | apply pw_below_drewN | apply below_drew1 | refine below_set ?_ GE137.out) | exact HB.out)) hb); clear HO140; clear BK137; clear HB; have HO140 := n0_; have BK137 := n1_; have HB := n2_; clear n0_ n1_ n2_; (try clear hb); (try clear hb2); (try clear hk); (try clear hi)))
                                    go_ret
                                    exact ⟨by first | rfl | (simp [errW_none, errW_some] <;> rfl) | (simp [*, errW_none, errW_some] <;> rfl), by repeat (first | (with_reducible first | exact HB.out | apply below_alloc | apply pw_below_drewN | apply below_drew1 | refine below_set ?_ GE137.out) | exact HB.out)⟩
                                · replace c33 := Bool.eq_false_iff.mpr c33
                                  subst c33
                                  have H1 : (none) = some r := by rw [if_neg (show ¬ (false = true) by decide)] at H; exact H
                                  clear H
                                  have H := H1
                                  clear H1
                                  exact absurd H (by simp)
                              · rw [if_neg c31] at H
                                exact absurd H (by simp)
                            · rw [if_neg c29] at H
                              exact absurd H (by simp)
                          · rw [if_neg c27] at H
                            exact absurd H (by simp)
                        · rw [if_neg c26] at H
                          exact absurd H (by simp)
                      · rw [if_neg c24] at H
                        exact absurd H (by simp)
                    · rw [if_neg c23] at H
                      exact absurd H (by simp)
                  · rw [if_neg c21] at H
                    exact absurd H (by simp)
                · rw [if_neg c20] at H
                  exact absurd H (by simp)
              · rw [if_neg c18] at H
                exact absurd H (by simp)
            · rw [if_neg c17] at H
              exact absurd H (by simp)
          · rw [if_neg c15] at H
            exact absurd H (by simp)
        · rw [if_neg c14] at H
          exact absurd H (by simp)
      · rw [if_neg c12] at H
        exact absurd H (by simp)
    · rw [if_neg c11] at H
      exact absurd H (by simp)
  · rw [if_neg c9] at H
    exact absurd H (by simp)

/-! ### wimpleref1_places: function 66 -/
mutual
def wimpleref1_places.l0 : Nat → ByteArray → List Int → Int → Option (List Int × Bool)
  | 0, _, _, _ => none
  | k + 1, x0, x4, x5 => if x5 < (x0.size : Int) then (wimpleref1_places.j1 k x0 x4 x5 (decide ((x0.size : Int) ≤ 255))) else (wimpleref1_places.j1 k x0 x4 x5 false)
def wimpleref1_places.j1 : Nat → ByteArray → List Int → Int → Bool → Option (List Int × Bool)
  | 0, _, _, _, _ => none
  | k + 1, x0, x4, x5, x15 => if x15 = true then (if 0 ≤ x5 then (if x5 < (x0.size : Int) then (if x4.length < 17592186044416 then ((some (x4 ++ [x5] : List Int)).bind fun y156 => (if (wrap64 (bt x0 x5)) = 0 then (some (y156, ((wrap64 (x5 + 1)) == (x0.size : Int)))) else (if (wrap64 (bt x0 x5)) > 63 then (some (([] : List Int), false)) else (wimpleref1_places.l0 k x0 y156 (wrap64 ((wrap64 (x5 + 1)) + (wrap64 (bt x0 x5)))))))) else (none)) else (none)) else (none)) else (some (([] : List Int), false))
end
def wimpleref1_places.f (k : Nat) (a0 : ByteArray) : Option (List Int × Bool) := wimpleref1_places.l0 k a0 ([] : List Int) 0
theorem wimpleref1_places.mono_l : ∀ k, (∀ y0 y1 y2, LeO (wimpleref1_places.l0 k y0 y1 y2) (wimpleref1_places.l0 (k + 1) y0 y1 y2)) ∧ (∀ y0 y1 y2 y3, LeO (wimpleref1_places.j1 k y0 y1 y2 y3) (wimpleref1_places.j1 (k + 1) y0 y1 y2 y3))
  | 0 => ⟨fun _ _ _ r h => by simp [wimpleref1_places.l0] at h, fun _ _ _ _ r h => by simp [wimpleref1_places.j1] at h⟩
  | k + 1 => by
    obtain ⟨ih0, ih1⟩ := wimpleref1_places.mono_l k
    refine ⟨?_, ?_⟩
    · intro y0 y1 y2
      unfold wimpleref1_places.l0
      repeat' first
      | (with_reducible exact ih0 _ _ _)
      | (with_reducible exact ih1 _ _ _ _)
      | (with_reducible exact LeO.refl _)
      | (with_reducible exact LeO.none _)
      | (with_reducible refine LeO.ite ?_ ?_)
      | (with_reducible refine LeO.bind ?_ (fun _ => ?_))
      | exact ih0 _ _ _
      | exact ih1 _ _ _ _
      | exact LeO.none _
      | refine LeO.ite ?_ ?_
      | refine LeO.bind ?_ (fun _ => ?_)
    · intro y0 y1 y2 y3
      unfold wimpleref1_places.j1
      repeat' first
      | (with_reducible exact ih0 _ _ _)
      | (with_reducible exact ih1 _ _ _ _)
      | (with_reducible exact LeO.refl _)
      | (with_reducible exact LeO.none _)
      | (with_reducible refine LeO.ite ?_ ?_)
      | (with_reducible refine LeO.bind ?_ (fun _ => ?_))
      | exact ih0 _ _ _
      | exact ih1 _ _ _ _
      | exact LeO.none _
      | refine LeO.ite ?_ ?_
      | refine LeO.bind ?_ (fun _ => ?_)
theorem wimpleref1_places.mono : ∀ a0 k, LeO (wimpleref1_places.f k a0) (wimpleref1_places.f (k + 1) a0) := by
  intro a0 k
  obtain ⟨ih0, ih1⟩ := wimpleref1_places.mono_l k
  unfold wimpleref1_places.f
  repeat' first
      | (with_reducible exact ih0 _ _ _)
      | (with_reducible exact ih1 _ _ _ _)
      | (with_reducible exact LeO.refl _)
      | (with_reducible exact LeO.none _)
      | (with_reducible refine LeO.ite ?_ ?_)
      | (with_reducible refine LeO.bind ?_ (fun _ => ?_))
      | exact ih0 _ _ _
      | exact ih1 _ _ _ _
      | exact LeO.none _
      | refine LeO.ite ?_ ?_
      | refine LeO.bind ?_ (fun _ => ?_)
set_option maxHeartbeats 8000000 in
set_option maxRecDepth 100000 in
theorem wimpleref1_places.calls (k : Nat) (a0 : ByteArray) (r1 : List Int) (r2 : Bool) (w : World) (h : wimpleref1_places.f k a0 = some (r1, r2)) :
    Calls Try.prog 66 #[.string a0] w fun e w' => ∃ v0_ : Value, e = .returned (.tuple #[v0_, .bool r2]) ∧ Kd.R (Kd.int .i64) 3 w' w.heap.size (fun _ => True) v0_ r1 ∧ Below w.heap.size w w' := by
  have HB := Aside0.mk (Below.refl w.heap.size w)
  have H : (wimpleref1_places.l0 k a0 ([] : List Int) 0) = some (r1, r2) := h
  clear h
  have H' := Aside0.mk H
  clear H
  go_enter Try.func66, Try.ntmps66
  go_wp2
  go_loopg [4, 5] k (fun kq v4 v5 w' => ∃ (x4_1 : List Int) (x5_1 : Int), v5 = .int .i64 x5_1 ∧ Aside0 (wimpleref1_places.l0 kq a0 x4_1 x5_1 = some (r1, r2)) ∧ Aside0 (kq ≤ k) ∧ Aside0 (Kd.R (Kd.int .i64) 3 w' w.heap.size (fun _ => True) v4 x4_1) ∧ Aside0 (Below w.heap.size w w'))
  case atStart => exact ⟨(([] : List Int)), (0), (by first | rfl | (simp; done) | (simp [*]; done)), H', ⟨Nat.le_refl _⟩, ⟨by first | exact Kd.R_nil _ _ _ _ _ | exact Kd.N_nil _ _ _ _ _ | exact Kd.V_nil _ _ _ _ _ | exact Kd.Q_nil _ _ _ _ _ | exact Kd.S_nil _ _ _ _ _⟩, ⟨by repeat (first | (with_reducible first | exact HB.out | apply below_alloc | apply pw_below_drewN | apply below_drew1) | exact HB.out)⟩⟩
  case round =>
    clear H'
    obtain ⟨x4_1, x5_1, rfl, HA, HK1, HO_4, HB⟩ := hrel
    cases gk with
    | zero => exact absurd HA.out (by simp [wimpleref1_places.l0])
    | succ k1 =>
      have H := HA.out
      clear HA
      simp only [wimpleref1_places.l0] at H
      have HC2 := Aside0.mk H
      clear H
      go_upto_region 3 with (fail)
      go_cut [15] (fun v15 wc => ∃ (kq : Nat) (x15_1 : Bool), v15 = .bool x15_1 ∧ Aside0 (wimpleref1_places.j1 kq a0 x4_1 x5_1 x15_1 = some (r1, r2)) ∧ Aside0 (kq ≤ k1) ∧ Aside0 (Kd.R (Kd.int .i64) 3 wc w.heap.size (fun _ => True) u4 x4_1) ∧ Aside0 (Below w.heap.size w wc))
      case first =>
        have H := HC2.out
        clear HC2
        by_cases c3 : x5_1 < (a0.size : Int)
        · rw [if_pos c3] at H
          have c3b0 : decide (x5_1 < (a0.size : Int)) = true := decide_eq_true c3
          clear c3
          (first | rw [c3b0] | (simp only [i64_w, i32_w]; rw [c3b0]) | skip)
          have H' := Aside0.mk H
          clear H
          go_wp2
          go_meet
          case rel => exact ⟨_, (decide ((a0.size : Int) ≤ 255)), (by first | rfl | (simp; done) | (simp [*]; done)), H', ⟨by have := HK1.out; first | omega | exact Nat.le_refl _⟩, ⟨by (with_reducible repeat (first | apply Kd.R_alloc | apply Kd.R_drewN | apply Kd.R_drew)); exact HO_4.out⟩, ⟨by repeat (first | (with_reducible first | exact HB.out | apply below_alloc | apply pw_below_drewN | apply below_drew1) | exact HB.out)⟩⟩
        · rw [if_neg c3] at H
          have c3b0 : decide (x5_1 < (a0.size : Int)) = false := decide_eq_false c3
          clear c3
          (first | rw [c3b0] | (simp only [i64_w, i32_w]; rw [c3b0]) | skip)
          have H' := Aside0.mk H
          clear H
          go_wp2
          go_meet
          case rel => exact ⟨_, (false), (by first | rfl | (simp; done) | (simp [*]; done)), H', ⟨by have := HK1.out; first | omega | exact Nat.le_refl _⟩, ⟨by (with_reducible repeat (first | apply Kd.R_alloc | apply Kd.R_drewN | apply Kd.R_drew)); exact HO_4.out⟩, ⟨by repeat (first | (with_reducible first | exact HB.out | apply below_alloc | apply pw_below_drewN | apply below_drew1) | exact HB.out)⟩⟩
      case rest =>
        clear HC2
        try clear p2
        try clear c3
        try clear c3b0
        obtain ⟨kq, x15_1, rfl, HA, HJ1, HO_4, HB⟩ := hcut
        cases kq with
        | zero => exact absurd HA.out (by simp [wimpleref1_places.j1])
        | succ kj1 =>
          have H := HA.out
          clear HA
          simp only [wimpleref1_places.j1] at H
          by_cases c4 : x15_1 = true
          · subst c4
            have H1 : (if 0 ≤ x5_1 then (if x5_1 < (a0.size : Int) then (if x4_1.length < 17592186044416 then ((some (x4_1 ++ [x5_1] : List Int)).bind fun y156 => (if (wrap64 (bt a0 x5_1)) = 0 then (some (y156, ((wrap64 (x5_1 + 1)) == (a0.size : Int)))) else (if (wrap64 (bt a0 x5_1)) > 63 then (some (([] : List Int), false)) else (wimpleref1_places.l0 kj1 a0 y156 (wrap64 ((wrap64 (x5_1 + 1)) + (wrap64 (bt a0 x5_1)))))))) else (none)) else (none)) else (none)) = some (r1, r2) := by rw [if_pos rfl] at H; exact H
            clear H
            have H := H1
            clear H1
            by_cases c5 : 0 ≤ x5_1
            · rw [if_pos c5] at H
              have c5b0 : decide (0 ≤ x5_1) = true := decide_eq_true c5
              clear c5
              by_cases c6 : x5_1 < (a0.size : Int)
              · rw [if_pos c6] at H
                have c6b0 : decide (x5_1 < (a0.size : Int)) = true := decide_eq_true c6
                clear c6
                by_cases c8 : x4_1.length < 17592186044416
                · rw [if_pos c8] at H
                  have LMc8 := Aside0.mk c8
                  clear c8
                  obtain ⟨y156, hy156⟩ : ∃ y_ : List Int, y_ = (x4_1 ++ [x5_1]) := ⟨_, rfl⟩
                  replace H : (if (wrap64 (bt a0 x5_1)) = 0 then (some (y156, ((wrap64 (x5_1 + 1)) == (a0.size : Int)))) else (if (wrap64 (bt a0 x5_1)) > 63 then (some (([] : List Int), false)) else (wimpleref1_places.l0 kj1 a0 y156 (wrap64 ((wrap64 (x5_1 + 1)) + (wrap64 (bt a0 x5_1))))))) = some (r1, r2) := by first | (rw [hy156]; with_reducible exact H) | (have H2_ := (Option.bind_some _ _).symm.trans H; rw [hy156]; with_reducible exact H2_) | (have H2_ := (Option.bind_some _ _).symm.trans H; with_reducible exact H2_) | with_reducible exact H | (rw [hy156]; exact H) | exact H
                  have Ny156 := Aside0.mk hy156
                  clear hy156
                  by_cases c9 : (wrap64 (bt a0 x5_1)) = 0
                  · rw [if_pos c9] at H
                    have c9b0 : ((wrap64 (bt a0 x5_1)) == 0) = true := beq_iff_eq.mpr c9
                    have c9b1 : ((wrap64 (bt a0 x5_1)) != 0) = false := bne_eq_false_iff_eq.mpr c9
                    clear c9
                    simp only [Option.some.injEq, Prod.mk.injEq] at H
                    obtain ⟨rfl, rfl⟩ := H
                    have p7 : 0 ≤ (x5_1 : Int) := of_decide_eq_true (by first | (with_reducible assumption) | assumption)
                    have q7 : x5_1 < (a0.size : Int) := of_decide_eq_true (by first | (with_reducible assumption) | assumption)
                    have hx7 := bt_at a0 x5_1
                    replace p7 := eq_true p7
                    replace q7 := eq_true q7
                    go_wp2_with (first | ((with_reducible refine gate_builtin (b := .append) (xs := #[.tmp 20, .tmp 22]) rfl ?_); (try (refine gate_guard (by rfl) ?_; dsimp only)); at_builtin; refine Kd.R_append (Kd.int .i64) (w0 := w) w.heap.size rfl (.tmp 20) (.tmp 22) 87 3 (.int .i64 0) 8 rfl Try.underlying87 info3 rfl (by decide) (by omega) u4 x4_1 x5_1 [.int .i64 x5_1] (fun _ => True) (fun _ => False) rfl rfl ?aP (fun _ hk => hk.elim) ?aF ?aO ?aB ?aS ?aL ?_; (case aP => exact rfl); (case aB => exact (by repeat (first | (with_reducible first | exact HB.out | apply below_alloc | apply pw_below_drewN | apply below_drew1) | exact HB.out))); (case aF => exact (fun _ _ => trivial)); (case aO => exact (by (with_reducible repeat (first | apply Kd.R_alloc | apply Kd.R_drewN | apply Kd.R_drew)); exact HO_4.out)); (case aS => exact (below_size (by repeat (first | (with_reducible first | exact HB.out | apply below_alloc | apply pw_below_drewN | apply below_drew1) | exact HB.out)))); (case aL => have := LMc8.out; omega); intro v157 w10 ho hb hg hat; rw [← Ny156.out] at ho; have n0_ := Aside0.mk (hb); have n1_ := Aside0.mk (ho); clear HB; clear HO_4; have HB := n0_; have HO158 := n1_; clear n0_ n1_; clear ho hb hg hat))
                    go_ret2
                    exact ⟨_, by first | rfl | (simp [errW_none, errW_some] <;> rfl) | (simp [*, errW_none, errW_some] <;> rfl), by (with_reducible repeat (first | apply Kd.R_alloc | apply Kd.R_drewN | apply Kd.R_drew)); exact HO158.out, by repeat (first | (with_reducible first | exact HB.out | apply below_alloc | apply pw_below_drewN | apply below_drew1) | exact HB.out)⟩
                  · rw [if_neg c9] at H
                    have c9b0 : ((wrap64 (bt a0 x5_1)) == 0) = false := beq_eq_false_iff_ne.mpr c9
                    have c9b1 : ((wrap64 (bt a0 x5_1)) != 0) = true := bne_iff_ne.mpr c9
                    by_cases c11 : (wrap64 (bt a0 x5_1)) > 63
                    · rw [if_pos c11] at H
                      have c11b0 : decide (63 < (wrap64 (bt a0 x5_1))) = true := decide_eq_true c11
                      clear c11
                      simp only [Option.some.injEq, Prod.mk.injEq] at H
                      obtain ⟨rfl, rfl⟩ := H
                      have p7 : 0 ≤ (x5_1 : Int) := of_decide_eq_true (by first | (with_reducible assumption) | assumption)
                      have q7 : x5_1 < (a0.size : Int) := of_decide_eq_true (by first | (with_reducible assumption) | assumption)
                      have hx7 := bt_at a0 x5_1
                      replace p7 := eq_true p7
                      replace q7 := eq_true q7
                      go_wp2_with (first | ((with_reducible refine gate_builtin (b := .append) (xs := #[.tmp 20, .tmp 22]) rfl ?_); (try (refine gate_guard (by rfl) ?_; dsimp only)); at_builtin; refine Kd.R_append (Kd.int .i64) (w0 := w) w.heap.size rfl (.tmp 20) (.tmp 22) 87 3 (.int .i64 0) 8 rfl Try.underlying87 info3 rfl (by decide) (by omega) u4 x4_1 x5_1 [.int .i64 x5_1] (fun _ => True) (fun _ => False) rfl rfl ?aP (fun _ hk => hk.elim) ?aF ?aO ?aB ?aS ?aL ?_; (case aP => exact rfl); (case aB => exact (by repeat (first | (with_reducible first | exact HB.out | apply below_alloc | apply pw_below_drewN | apply below_drew1) | exact HB.out))); (case aF => exact (fun _ _ => trivial)); (case aO => exact (by (with_reducible repeat (first | apply Kd.R_alloc | apply Kd.R_drewN | apply Kd.R_drew)); exact HO_4.out)); (case aS => exact (below_size (by repeat (first | (with_reducible first | exact HB.out | apply below_alloc | apply pw_below_drewN | apply below_drew1) | exact HB.out)))); (case aL => have := LMc8.out; omega); intro v157 w12 ho hb hg hat; rw [← Ny156.out] at ho; have n0_ := Aside0.mk (hb); have n1_ := Aside0.mk (ho); clear HB; clear HO_4; have HB := n0_; have HO158 := n1_; clear n0_ n1_; clear ho hb hg hat))
                      go_ret2
                      exact ⟨_, by first | rfl | (simp [errW_none, errW_some] <;> rfl) | (simp [*, errW_none, errW_some] <;> rfl), by first | exact Kd.R_nil _ _ _ _ _ | exact Kd.N_nil _ _ _ _ _ | exact Kd.V_nil _ _ _ _ _ | exact Kd.Q_nil _ _ _ _ _ | exact Kd.S_nil _ _ _ _ _, by repeat (first | (with_reducible first | exact HB.out | apply below_alloc | apply pw_below_drewN | apply below_drew1) | exact HB.out)⟩
                    · rw [if_neg c11] at H
                      have c11b0 : decide (63 < (wrap64 (bt a0 x5_1))) = false := decide_eq_false c11
                      clear c11
                      have H' := Aside0.mk H
                      clear H
                      have p7 : 0 ≤ (x5_1 : Int) := of_decide_eq_true (by first | (with_reducible assumption) | assumption)
                      have q7 : x5_1 < (a0.size : Int) := of_decide_eq_true (by first | (with_reducible assumption) | assumption)
                      have hx7 := bt_at a0 x5_1
                      replace p7 := eq_true p7
                      replace q7 := eq_true q7
                      go_wp2_with (first | ((with_reducible refine gate_builtin (b := .append) (xs := #[.tmp 20, .tmp 22]) rfl ?_); (try (refine gate_guard (by rfl) ?_; dsimp only)); at_builtin; refine Kd.R_append (Kd.int .i64) (w0 := w) w.heap.size rfl (.tmp 20) (.tmp 22) 87 3 (.int .i64 0) 8 rfl Try.underlying87 info3 rfl (by decide) (by omega) u4 x4_1 x5_1 [.int .i64 x5_1] (fun _ => True) (fun _ => False) rfl rfl ?aP (fun _ hk => hk.elim) ?aF ?aO ?aB ?aS ?aL ?_; (case aP => exact rfl); (case aB => exact (by repeat (first | (with_reducible first | exact HB.out | apply below_alloc | apply pw_below_drewN | apply below_drew1) | exact HB.out))); (case aF => exact (fun _ _ => trivial)); (case aO => exact (by (with_reducible repeat (first | apply Kd.R_alloc | apply Kd.R_drewN | apply Kd.R_drew)); exact HO_4.out)); (case aS => exact (below_size (by repeat (first | (with_reducible first | exact HB.out | apply below_alloc | apply pw_below_drewN | apply below_drew1) | exact HB.out)))); (case aL => have := LMc8.out; omega); intro v157 w13 ho hb hg hat; rw [← Ny156.out] at ho; have n0_ := Aside0.mk (hb); have n1_ := Aside0.mk (ho); clear HB; clear HO_4; have HB := n0_; have HO158 := n1_; clear n0_ n1_; clear ho hb hg hat))
                      go_roundg kj1
                      case measure => have := HK1.out; have := HJ1.out; omega
                      case rel => exact ⟨(y156), (wrap64 ((wrap64 (x5_1 + 1)) + (wrap64 (bt a0 x5_1)))), (by first | rfl | (simp; done) | (simp [*]; done)), H', ⟨by have := HK1.out; have := HJ1.out; omega⟩, ⟨by (with_reducible repeat (first | apply Kd.R_alloc | apply Kd.R_drewN | apply Kd.R_drew)); exact HO158.out⟩, ⟨by repeat (first | (with_reducible first | exact HB.out | apply below_alloc | apply pw_below_drewN | apply below_drew1) | exact HB.out)⟩⟩
                · rw [if_neg c8] at H
                  exact absurd H (by simp)
              · rw [if_neg c6] at H
                exact absurd H (by simp)
            · rw [if_neg c5] at H
              exact absurd H (by simp)
          · replace c4 := Bool.eq_false_iff.mpr c4
            subst c4
            have H1 : (some (([] : List Int), false)) = some (r1, r2) := by rw [if_neg (show ¬ (false = true) by decide)] at H; exact H
            clear H
            have H := H1
            clear H1
            simp only [Option.some.injEq, Prod.mk.injEq] at H
            obtain ⟨rfl, rfl⟩ := H
            go_wp2
            go_ret2
            exact ⟨_, by first | rfl | (simp [errW_none, errW_some] <;> rfl) | (simp [*, errW_none, errW_some] <;> rfl), by first | exact Kd.R_nil _ _ _ _ _ | exact Kd.N_nil _ _ _ _ _ | exact Kd.V_nil _ _ _ _ _ | exact Kd.Q_nil _ _ _ _ _ | exact Kd.S_nil _ _ _ _ _, by repeat (first | (with_reducible first | exact HB.out | apply below_alloc | apply pw_below_drewN | apply below_drew1) | exact HB.out)⟩

/-! ### wimpleref1_May: function 44 -/
def wimpleref1_May.f (a0 : ByteArray) : Option (Bool) := some (Go.Proofs.Ytndcjleadggibaa.Nm.nameB a0)
set_option maxHeartbeats 8000000 in
set_option maxRecDepth 100000 in
theorem wimpleref1_May.calls (a0 : ByteArray) (r : Bool) (w : World) (h : wimpleref1_May.f a0 = some r) :
    Calls Try.prog 44 #[.string a0] w fun e w' => e = .returned (.bool r) ∧ Below w.heap.size w w' := by
  unfold wimpleref1_May.f at h
  simp only [Option.some.injEq] at h
  subst h
  exact Go.Proofs.Ytndcjleadggibaa.Nm.rmay a0 w

end Go.Proofs.Ytndcjleadggibaa.PRda
