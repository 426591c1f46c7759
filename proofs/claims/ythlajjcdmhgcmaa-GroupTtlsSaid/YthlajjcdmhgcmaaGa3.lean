/- Plain numbers, bytes of strings, and from some number of rounds on: no program in sight. -/
import Derived.Laws.BitsLemmas
import Derived.Test.YthlajjcdmhgcmaaRows
import Derived.WalkKit
import Derived.ProofKit
import Derived.OpenShut
import Derived.ShutString
import Derived.ChangeOld
import Derived.Below
import Derived.SizedLaws
import Derived.Test.YthlajjcdmhgcmaaGa1
import Derived.Test.YthlajjcdmhgcmaaGa2
namespace Go.Proofs.Ythlajjcdmhgcmaa.PGt
open Go.RowKit Go.Proofs.YthlajjcdmhgcmaaW.PrintWords Go.Proofs.YthlajjcdmhgcmaaW.PrintLast Go.Proofs.YthlajjcdmhgcmaaW.PrintMore
attribute [local go_sem] max2_int min2_int max_two min_two max_three min_three max_four min_four   -- for this text's walks alone
set_option linter.unusedVariables false
set_option linter.unusedSimpArgs false

-- NOT PRINTED: function 62 (slices_partitionOrdered_string)

-- NOT PRINTED: function 47 (slices_pdqsortOrdered_string)

-- NOT PRINTED: function 28 (slices_Sort_string_string)

-- NOT PRINTED: function 29 (slices_Compact_string_string)

/-! ### sets_Group: function 10 -/
def gr_R (x : S43) : Go.Proofs.Ythlajjcdmhgcmaa.Gr.Rr := ⟨x.f0, x.f1, x.f2, x.f3, x.f4⟩
def gr_S (x : Go.Proofs.Ythlajjcdmhgcmaa.Gr.SP) : S25 := ⟨x.name, x.type, x.ttl, x.datas⟩
def sets_Group.f (l0 : List (S43)) : Option (List (S25) × Int) := (Go.Proofs.Ythlajjcdmhgcmaa.Gr.groupF (l0.map gr_R)).map fun r => (r.1.map gr_S, r.2)
set_option maxHeartbeats 8000000 in
set_option maxRecDepth 100000 in
theorem sets_Group.calls (A0 : Option Addr) (c0 : Nat) (l0 : List (S43)) (r1 : List (S25)) (r2 : Int) (w : World) (hr0 : Kd.C k43 w A0 l0.length l0) (hc0 : l0.length ≤ c0) (h : sets_Group.f l0 = some (r1, r2)) :
    Calls Try.prog 10 #[.slice A0 l0.length c0] w fun e w' => ∃ v0_ : Value, e = .returned (.tuple #[v0_, .int .i64 r2]) ∧ Kd.S k25 25 w' w.heap.size (fun _ => True) v0_ r1 ∧ Below w.heap.size w w' := by
  obtain ⟨r0, hr, e⟩ := Option.map_eq_some_iff.1 h
  simp only [Prod.mk.injEq] at e
  obtain ⟨rfl, rfl⟩ := e
  have hR := Go.Proofs.Ythlajjcdmhgcmaa.Gr.rcells_of (f := gr_R) (fun hk => k43_open hk) rfl hr0
  have hc := Go.Proofs.Ythlajjcdmhgcmaa.Gr.groupc hr c0 hR
  rw [List.length_map] at hc
  refine hc.mono ?_
  rintro e w' ⟨v, ss, h1, rfl, hS, hb⟩
  refine ⟨v, rfl, ?_, hb⟩
  rw [h1]
  exact Go.Proofs.Ythlajjcdmhgcmaa.Gr.skdS k25 gr_S (fun w base ok q dv hd => k25_mkM w base ok (gr_S q) hd) rfl hS

/-! ### wimplelaw0_Num: function 16 -/
def wimplelaw0_Num.f (a0 : Int) : Option (Int) := some a0
set_option maxHeartbeats 8000000 in
set_option maxRecDepth 100000 in
theorem wimplelaw0_Num.calls (a0 : Int) (r : Int) (w : World) (h : wimplelaw0_Num.f a0 = some r) :
    Calls Try.prog 16 #[.int .i64 a0] w fun e w' => e = .returned (.int .i64 r) ∧ Drawn0 w w' := by
  have H : (some a0) = some r := h
  clear h
  obtain rfl := Option.some.inj H
  go_enter Try.func16, Try.ntmps16
  go_wp2
  go_ret
  exact ⟨by first | rfl | (simp; done) | (simp [*]; done), by repeat (first | exact Drawn0.refl _ | apply Drawn0.step)⟩

/-! ### wimplelaw11_awake: function 21 -/
def wimplelaw11_awake.f : Option (Bool) := some true
set_option maxHeartbeats 8000000 in
set_option maxRecDepth 100000 in
theorem wimplelaw11_awake.calls  (r : Bool) (w : World) (h : wimplelaw11_awake.f  = some r) :
    Calls Try.prog 21 #[] w fun e w' => e = .returned (.bool r) ∧ Below w.heap.size w w' := by
  simp only [wimplelaw11_awake.f, Option.some.injEq] at h
  subst h
  exact Go.Proofs.Ythlajjcdmhgcmaa.Gr.awake11 w

/-! ### wimplelaw11_GroupTtls: function 8 -/
mutual
def wimplelaw11_GroupTtls.j1 : Nat → List (S43) → Int → Option (Bool)
  | 0, _, _ => none
  | k + 1, x3, x4 => (sets_Group.f x3).bind fun bt256 => (if (x3.length : Int) = 0 then ((wimplelaw0_Num.f bt256.2).bind fun t260 => (if t260 = 0 then (some ((bt256.1.length : Int) == 0)) else (none))) else ((wimplelaw0_Num.f bt256.2).bind fun t261 => (if t261 = 0 then (if (bt256.1.length : Int) = 1 then (if 0 < (bt256.1.length : Int) then (if ((rd_T25 bt256.1 0).f2) = x4 then (some ((((rd_T25 bt256.1 0).f3).length : Int) == (x3.length : Int))) else (none)) else (none)) else (none)) else (none))))
def wimplelaw11_GroupTtls.l0 : Nat → List Int → List (S43) → Int → Int → Option (Bool)
  | 0, _, _, _, _ => none
  | k + 1, x0, x3, x4, x5 => if x5 < (x0.length : Int) then (if x5 < 64 then (if 0 ≤ x5 then ((some (([(x5) % 256] : List Int) : List Int)).bind fun y250 => (if 3 + (strOfNums y250).size ≤ 9223372036854775807 then (if x3.length < 2513169434916 then (wimplelaw11_GroupTtls.l0 k x0 (x3 ++ [(⟨(⟨#[1, 97, 0]⟩ : ByteArray), 1, 1, Go.bits .and .i64 (rd x0 x5) 4294967295, (⟨#[97, 98, 99]⟩ : ByteArray) ++ (strOfNums y250)⟩ : S43)]) (mn x4 (Go.bits .and .i64 (rd x0 x5) 4294967295)) (wrap64 (x5 + 1))) else (none)) else (none))) else (none)) else (wimplelaw11_GroupTtls.j1 k x3 x4)) else (wimplelaw11_GroupTtls.j1 k x3 x4)
end
def wimplelaw11_GroupTtls.f (k : Nat) (l0 : List Int) : Option (Bool) := (wimplelaw11_awake.f).bind fun t248 => (if t248 = true then (wimplelaw11_GroupTtls.l0 k l0 ([] : List (S43)) 86400 0) else (none))
set_option maxHeartbeats 8000000 in
set_option maxRecDepth 100000 in
theorem wimplelaw11_GroupTtls.calls (k : Nat) (A0 : Option Addr) (c0 : Nat) (l0 : List Int) (r : Bool) (w : World) (hr0 : Kd.C (Kd.int .i64) w A0 l0.length l0) (hc0 : l0.length ≤ c0) (h : wimplelaw11_GroupTtls.f k l0 = some r) :
    Calls Try.prog 8 #[.slice A0 l0.length c0] w fun e w' => e = .returned (.bool r) ∧ Below w.heap.size w w' := by
  have hu43 := Try.underlying43
  have HR0 := Aside0.mk hr0
  have HC0 := Aside0.mk hc0
  clear hr0 hc0
  have HB := Aside0.mk (Below.refl w.heap.size w)
  have H : ((wimplelaw11_awake.f).bind fun t248 => (if t248 = true then (wimplelaw11_GroupTtls.l0 k l0 ([] : List (S43)) 86400 0) else (none))) = some r := h
  clear h
  replace H := Option.bind_eq_some_iff.mp H
  obtain ⟨t248, A20, H⟩ := H
  replace H : (if t248 = true then (wimplelaw11_GroupTtls.l0 k l0 ([] : List (S43)) 86400 0) else (none)) = some r := H
  have A2 := Aside0.mk A20
  clear A20
  by_cases c3 : t248 = true
  · subst c3
    have H1 : (wimplelaw11_GroupTtls.l0 k l0 ([] : List (S43)) 86400 0) = some r := by rw [if_pos rfl] at H; exact H
    clear H
    have H := H1
    clear H1
    have HC4 := Aside0.mk H
    clear H
    go_enter Try.func8, Try.ntmps8
    go_upto_block 0 with (first | ((with_reducible refine gate_dst (N := 9) rfl ?_); (try (refine gate_guard (by rfl) ?_; dsimp only)); (with_reducible refine gate_callee (f := 21) rfl ?_); refine goesL_ (some 9) rfl rfl Try.func21 (by kernel_rfl) rfl #[] rfl (by (try simp only [List.map_toArray, List.map_cons, List.map_nil]); first | done | rfl | (simp only [List.length_drop, List.length_take]; rfl)) ?_; (with_reducible refine (wimplelaw11_awake.calls  true _ A2.out).mono ?_); rintro e w5 ⟨rfl, hb⟩; refine ⟨_, rfl, ?_⟩; have n0_ := Aside0.mk (below_step (by repeat (first | (with_reducible first | exact HB.out | apply below_alloc | apply pw_below_drewN | apply below_drew1) | exact HB.out)) hb); clear HB; have HB := n0_; clear n0_; (try clear hb); (try clear hb2); (try clear hk); (try clear hi)))
    (try simp only [Act.put, List.setIfInBounds_toArray, List.set_cons_zero, List.set_cons_succ])
    go_cut [3, 4] (fun v3 v4 wc => ∃ (kq : Nat) (x3_3 : List (S43)) (x4_3 : Int), v4 = .int .i64 x4_3 ∧ Aside0 (wimplelaw11_GroupTtls.j1 kq x3_3 x4_3 = some r) ∧ Aside0 (kq ≤ k) ∧ Aside0 (Kd.R k43 43 wc w.heap.size (fun _ => True) v3 x3_3) ∧ Aside0 (Below w.heap.size w wc))
    case first =>
      have H := HC4.out
      clear HC4
      have H' := Aside0.mk H
      clear H
      go_wp2
      go_loopg [3, 4, 5] k (fun kq v3 v4 v5 w' => ∃ (x3_1 : List (S43)) (x4_1 : Int) (x5_1 : Int), v4 = .int .i64 x4_1 ∧ v5 = .int .i64 x5_1 ∧ Aside0 (wimplelaw11_GroupTtls.l0 kq l0 x3_1 x4_1 x5_1 = some r) ∧ Aside0 (kq ≤ k) ∧ Aside0 (Kd.R k43 43 w' w.heap.size (fun _ => True) v3 x3_1) ∧ Aside0 (Below w.heap.size w w'))
      case atStart => exact ⟨(([] : List (S43))), (86400), (0), (by first | rfl | (simp; done) | (simp [*]; done)), (by first | rfl | (simp; done) | (simp [*]; done)), H', ⟨Nat.le_refl _⟩, ⟨by first | exact Kd.R_nil _ _ _ _ _ | exact Kd.N_nil _ _ _ _ _ | exact Kd.V_nil _ _ _ _ _ | exact Kd.Q_nil _ _ _ _ _ | exact Kd.S_nil _ _ _ _ _⟩, ⟨by repeat (first | (with_reducible first | exact HB.out | apply below_alloc | apply pw_below_drewN | apply below_drew1) | exact HB.out)⟩⟩
      case round =>
        clear H'
        try clear c2
        try clear p2
        try clear c3
        obtain ⟨x3_1, x4_1, x5_1, rfl, rfl, HA, HK1, HO_3, HB⟩ := hrel
        cases gk with
        | zero => exact absurd HA.out (by simp [wimplelaw11_GroupTtls.l0])
        | succ k1 =>
          have H := HA.out
          clear HA
          simp only [wimplelaw11_GroupTtls.l0] at H
          by_cases c6 : x5_1 < (l0.length : Int)
          · rw [if_pos c6] at H
            have c6b0 : decide (x5_1 < (l0.length : Int)) = true := decide_eq_true c6
            clear c6
            (first | rw [c6b0] | (simp only [i64_w, i32_w]; rw [c6b0]) | skip)
            by_cases c7 : x5_1 < 64
            · rw [if_pos c7] at H
              have c7b0 : decide (x5_1 < 64) = true := decide_eq_true c7
              clear c7
              by_cases c8 : 0 ≤ x5_1
              · rw [if_pos c8] at H
                have c8b0 : decide (0 ≤ x5_1) = true := decide_eq_true c8
                clear c8
                obtain ⟨ji9, hji9⟩ : ∃ j_ : Int, (mn x4_1 (Go.bits .and .i64 (rd l0 x5_1) 4294967295)) = j_ := ⟨_, rfl⟩
                replace H : ((some (([(x5_1) % 256] : List Int) : List Int)).bind fun y250 => (if 3 + (strOfNums y250).size ≤ 9223372036854775807 then (if x3_1.length < 2513169434916 then (wimplelaw11_GroupTtls.l0 k1 l0 (x3_1 ++ [(⟨(⟨#[1, 97, 0]⟩ : ByteArray), 1, 1, Go.bits .and .i64 (rd l0 x5_1) 4294967295, (⟨#[97, 98, 99]⟩ : ByteArray) ++ (strOfNums y250)⟩ : S43)]) ji9 (wrap64 (x5_1 + 1))) else (none)) else (none))) = some r := by first | (rw [hji9] at H; exact H) | (simp only [hji9] at H ⊢; exact H)
                have hji9_ : (if (Go.bits .and .i64 (rd l0 x5_1) 4294967295) < x4_1 then (Go.bits .and .i64 (rd l0 x5_1) 4294967295) else x4_1) = ji9 := hji9
                obtain ⟨y250, hy250⟩ : ∃ y_ : List Int, y_ = (([(x5_1) % 256] : List Int)) := ⟨_, rfl⟩
                replace H : (if 3 + (strOfNums y250).size ≤ 9223372036854775807 then (if x3_1.length < 2513169434916 then (wimplelaw11_GroupTtls.l0 k1 l0 (x3_1 ++ [(⟨(⟨#[1, 97, 0]⟩ : ByteArray), 1, 1, Go.bits .and .i64 (rd l0 x5_1) 4294967295, (⟨#[97, 98, 99]⟩ : ByteArray) ++ (strOfNums y250)⟩ : S43)]) ji9 (wrap64 (x5_1 + 1))) else (none)) else (none)) = some r := by first | (rw [hy250]; with_reducible exact H) | (have H2_ := (Option.bind_some _ _).symm.trans H; rw [hy250]; with_reducible exact H2_) | (have H2_ := (Option.bind_some _ _).symm.trans H; with_reducible exact H2_) | with_reducible exact H | (rw [hy250]; exact H) | exact H
                have Ny250 := Aside0.mk hy250
                clear hy250
                by_cases c10 : 3 + (strOfNums y250).size ≤ 9223372036854775807
                · rw [if_pos c10] at H
                  have c10b0 := eq_true c10
                  have c10b1 : decide (3 + (strOfNums y250).size ≤ 9223372036854775807) = true := decide_eq_true c10
                  try have c10b2 : (9223372036854775807 < 3 + (strOfNums y250).size) = False := eq_false (Nat.not_lt.2 c10)
                  by_cases c11 : x3_1.length < 2513169434916
                  · rw [if_pos c11] at H
                    have LMc11 := Aside0.mk c11
                    clear c11
                    obtain ⟨y253, hy253⟩ : ∃ y_ : List (S43), y_ = (x3_1 ++ [(⟨(⟨#[1, 97, 0]⟩ : ByteArray), 1, 1, Go.bits .and .i64 (rd l0 x5_1) 4294967295, (⟨#[97, 98, 99]⟩ : ByteArray) ++ (strOfNums y250)⟩ : S43)]) := ⟨_, rfl⟩
                    replace H : (wimplelaw11_GroupTtls.l0 k1 l0 y253 ji9 (wrap64 (x5_1 + 1))) = some r := by first | (rw [hy253]; with_reducible exact H) | (have H2_ := (Option.bind_some _ _).symm.trans H; rw [hy253]; with_reducible exact H2_) | (have H2_ := (Option.bind_some _ _).symm.trans H; with_reducible exact H2_) | with_reducible exact H | (rw [hy253]; exact H) | exact H
                    have Ny253 := Aside0.mk hy253
                    clear hy253
                    have H' := Aside0.mk H
                    clear H
                    have p249 : 0 ≤ (x5_1 : Int) := of_decide_eq_true (by first | (with_reducible assumption) | assumption)
                    have q249 : x5_1 < (l0.length : Int) := of_decide_eq_true (by first | (with_reducible assumption) | assumption)
                    obtain ⟨ad249, e249, hx249_0⟩ := Kd.at_int HR0.out x5_1 p249 q249
                    cases e249
                    replace hx249_0 := (HB.out.cell (World.block_lt_of_cell? w _ hx249_0)).trans hx249_0
                    replace p249 := eq_true p249
                    replace q249 := eq_true q249
                    go_wp2_with (first | ((with_reducible refine gate_dst (N := 33) rfl ?_); (try (refine gate_guard (by rfl) ?_; dsimp only)); refine Kd.R_lit (Kd.int .u8) _ 5 ?hg (N := 33) ?hd (xs := ([(x5_1) % 256] : List Int)) (inner := [.int .u8 ((x5_1) % 256)]) (ok := fun _ => True) (okp := fun _ => True) ?hr ?hp (fun _ hk => hk) trivial (Below.refl _ _) (Nat.le_refl _) (by simp) ?_; (case hd => rfl); (case hg => rfl); (case hr => first | (go_simp; done) | (go_simp; rfl)); (case hp => exact (Reps.one (show Kd.M (Kd.int .u8) _ _ _ ((x5_1) % 256) [.int .u8 ((x5_1) % 256)] from rfl) (Reps.none _ _))); intro v251 w12 ho13 hb hg_ hnew_; clear hg_ hnew_; (first | rw [← Ny250.out] at ho13 | (simp only [Int.reduceToNat] at ho13; rw [← Ny250.out] at ho13)); have n0_ := Aside0.mk (Kd.R_below (by (with_reducible repeat (first | apply Kd.R_alloc | apply Kd.R_drewN | apply Kd.R_drew)); exact HO_3.out) hb); have n1_ := Aside0.mk (Kd.R_lower ho13 (below_size (by repeat (first | (with_reducible first | exact HB.out | apply below_alloc | apply pw_below_drewN | apply below_drew1) | exact HB.out)))); have n2_ := Aside0.mk (below_step (by repeat (first | (with_reducible first | exact HB.out | apply below_alloc | apply pw_below_drewN | apply below_drew1) | exact HB.out)) hb); clear HO_3; clear HB; have HO_3 := n0_; have HO252 := n1_; have HB := n2_; clear n0_ n1_ n2_; clear hb ho13; have hcv14 := own_string (P := Try.prog) Try.underlying55 Try.underlying5 Try.underlying9 (Kd.own_of_R HO252.out)) | ((with_reducible refine gate_builtin (b := .append) (xs := #[.tmp 29, .tmp 37]) rfl ?_); (try (refine gate_guard (by rfl) ?_; dsimp only)); at_builtin; refine Kd.R_append k43 (w0 := w) w.heap.size rfl (.tmp 29) (.tmp 37) 22 43 (.agg #[(.string ⟨#[]⟩), (.int .i64 0), (.int .i64 0), (.int .i64 0), (.string ⟨#[]⟩)]) 56 rfl Try.underlying22 info43 rfl (by decide) (by omega) u3 x3_1 (⟨(⟨#[1, 97, 0]⟩ : ByteArray), 1, 1, Go.bits .and .i64 (rd l0 x5_1) 4294967295, (⟨#[97, 98, 99]⟩ : ByteArray) ++ (strOfNums y250)⟩ : S43) [.string (⟨#[1, 97, 0]⟩ : ByteArray), .int .i64 1, .int .i64 1, .int .i64 (Go.bits .and .i64 (rd l0 x5_1) 4294967295), .string ((⟨#[97, 98, 99]⟩ : ByteArray) ++ (strOfNums y250))] (fun _ => True) (fun _ => False) rfl rfl ?aP (fun _ hk => hk.elim) ?aF ?aO ?aB ?aS ?aL ?_; (case aP => exact k43_mkM _ _ _ (⟨(⟨#[1, 97, 0]⟩ : ByteArray), 1, 1, Go.bits .and .i64 (rd l0 x5_1) 4294967295, (⟨#[97, 98, 99]⟩ : ByteArray) ++ (strOfNums y250)⟩ : S43)); (case aB => exact (by repeat (first | (with_reducible first | exact HB.out | apply below_alloc | apply pw_below_drewN | apply below_drew1) | exact HB.out))); (case aF => exact (fun _ _ => trivial)); (case aO => exact (by (with_reducible repeat (first | apply Kd.R_alloc | apply Kd.R_drewN | apply Kd.R_drew)); exact HO_3.out)); (case aS => exact (below_size (by repeat (first | (with_reducible first | exact HB.out | apply below_alloc | apply pw_below_drewN | apply below_drew1) | exact HB.out)))); (case aL => have := LMc11.out; omega); intro v254 w15 ho hb hg hat; rw [← Ny253.out] at ho; have n0_ := Aside0.mk (Kd.R_over' (by (with_reducible repeat (first | apply Kd.R_alloc | apply Kd.R_drewN | apply Kd.R_drew)); exact HO252.out) (Kd.R_typed (by (with_reducible repeat (first | apply Kd.R_alloc | apply Kd.R_drewN | apply Kd.R_drew)); exact HO_3.out)) (by decide) hg); have n1_ := Aside0.mk (hb); have n2_ := Aside0.mk (ho); clear HO252; clear HB; clear HO_3; have HO252 := n0_; have HB := n1_; have HO255 := n2_; clear n0_ n1_ n2_; clear ho hb hg hat))
                    go_roundg k1
                    case measure => have := HK1.out; omega
                    case rel => exact ⟨(y253), (ji9), (wrap64 (x5_1 + 1)), (by first | rfl | (simp; done) | (simp only [← hji9] <;> (first | rfl | simp)) | (simp [*]; done)), (by first | rfl | (simp; done) | (simp [*]; done)), H', ⟨by have := HK1.out; omega⟩, ⟨by (with_reducible repeat (first | apply Kd.R_alloc | apply Kd.R_drewN | apply Kd.R_drew)); exact HO255.out⟩, ⟨by repeat (first | (with_reducible first | exact HB.out | apply below_alloc | apply pw_below_drewN | apply below_drew1) | exact HB.out)⟩⟩
                  · rw [if_neg c11] at H
                    exact absurd H (by simp)
                · rw [if_neg c10] at H
                  exact absurd H (by simp)
              · rw [if_neg c8] at H
                exact absurd H (by simp)
            · rw [if_neg c7] at H
              have c7b0 : decide (x5_1 < 64) = false := decide_eq_false c7
              clear c7
              have H' := Aside0.mk H
              clear H
              go_wp2
              go_meet
              case rel => exact ⟨_, (x3_1), (x4_1), (by first | rfl | (simp; done) | (simp [*]; done)), H', ⟨by have := HK1.out; first | omega | exact Nat.le_refl _⟩, ⟨by (with_reducible repeat (first | apply Kd.R_alloc | apply Kd.R_drewN | apply Kd.R_drew)); exact HO_3.out⟩, ⟨by repeat (first | (with_reducible first | exact HB.out | apply below_alloc | apply pw_below_drewN | apply below_drew1) | exact HB.out)⟩⟩
          · rw [if_neg c6] at H
            have c6b0 : decide (x5_1 < (l0.length : Int)) = false := decide_eq_false c6
            clear c6
            (first | rw [c6b0] | (simp only [i64_w, i32_w]; rw [c6b0]) | skip)
            have H' := Aside0.mk H
            clear H
            go_wp2
            go_meet
            case rel => exact ⟨_, (x3_1), (x4_1), (by first | rfl | (simp; done) | (simp [*]; done)), H', ⟨by have := HK1.out; first | omega | exact Nat.le_refl _⟩, ⟨by (with_reducible repeat (first | apply Kd.R_alloc | apply Kd.R_drewN | apply Kd.R_drew)); exact HO_3.out⟩, ⟨by repeat (first | (with_reducible first | exact HB.out | apply below_alloc | apply pw_below_drewN | apply below_drew1) | exact HB.out)⟩⟩
    case rest =>
      clear HC4
      try clear c1
      try clear hcv1
      try clear c2
      try clear p2
      try clear q2
      try clear hx2
      try clear c3
      try clear c6
      try clear c6b0
      try clear p6
      try clear c7
      try clear c7b0
      try clear c8
      try clear c8b0
      try clear c10
      try clear c10b0
      try clear c10b1
      try clear c10b2
      try clear c11
      try clear hcv14
      try clear hx249_0
      try clear p2
      try clear p249
      try clear q249
      obtain ⟨kq, x3_3, x4_3, rfl, HA, HJ3, HO_3, HB⟩ := hcut
      cases kq with
      | zero => exact absurd HA.out (by simp [wimplelaw11_GroupTtls.j1])
      | succ kj3 =>
        have H := HA.out
        clear HA
        simp only [wimplelaw11_GroupTtls.j1] at H
        replace H := Option.bind_eq_some_iff.mp H
        obtain ⟨⟨t256, t257⟩, A160, H⟩ := H
        replace H : (if (x3_3.length : Int) = 0 then ((wimplelaw0_Num.f t257).bind fun t260 => (if t260 = 0 then (some ((t256.length : Int) == 0)) else (none))) else ((wimplelaw0_Num.f t257).bind fun t261 => (if t261 = 0 then (if (t256.length : Int) = 1 then (if 0 < (t256.length : Int) then (if ((rd_T25 t256 0).f2) = x4_3 then (some ((((rd_T25 t256 0).f3).length : Int) == (x3_3.length : Int))) else (none)) else (none)) else (none)) else (none)))) = some r := H
        have A16 := Aside0.mk A160
        clear A160
        by_cases c17 : (x3_3.length : Int) = 0
        · rw [if_pos c17] at H
          have c17b0 : ((x3_3.length : Int) == 0) = true := beq_iff_eq.mpr c17
          have c17b1 : ((x3_3.length : Int) != 0) = false := bne_eq_false_iff_eq.mpr c17
          clear c17
          replace H := Option.bind_eq_some_iff.mp H
          obtain ⟨t260, A180, H⟩ := H
          replace H : (if t260 = 0 then (some ((t256.length : Int) == 0)) else (none)) = some r := H
          have A18 := Aside0.mk A180
          clear A180
          by_cases c19 : t260 = 0
          · rw [if_pos c19] at H
            have c19b0 : (t260 == 0) = true := beq_iff_eq.mpr c19
            have c19b1 : (t260 != 0) = false := bne_eq_false_iff_eq.mpr c19
            clear c19
            obtain rfl := Option.some.inj H
            obtain ⟨Ao20, co20, eo20⟩ := Kd.R_slice HO_3.out
            subst eo20
            go_wp2_with (first | ((with_reducible refine gate_dst (N := 41) rfl ?_); (try (refine gate_guard (by rfl) ?_; dsimp only)); (with_reducible refine gate_callee (f := 10) rfl ?_); refine goesL_ (some 41) rfl rfl Try.func10 (by kernel_rfl) rfl #[.slice Ao20 x3_3.length co20] rfl (by (try simp only [List.map_toArray, List.map_cons, List.map_nil]); first | done | rfl | (simp only [List.length_drop, List.length_take]; rfl)) ?_; (with_reducible refine (sets_Group.calls _ _ x3_3 t256 t257 _ ?side1 ?side2 A16.out).mono ?_); (case side1 => repeat (first | exact (Kd.R_reads' HO_3.out).2.2 | (with_reducible refine Kd.C_alloc ?_ _) | (with_reducible refine Kd.C_drewN ?_ _) | (with_reducible refine Kd.C_drew ?_))); (case side2 => exact (Kd.R_reads' HO_3.out).2.1); rintro e w21 ⟨v258, rfl, ho0, hb⟩; refine ⟨_, rfl, ?_⟩; have n0_ := Aside0.mk (Kd.R_below (by (with_reducible repeat (first | apply Kd.R_alloc | apply Kd.R_drewN | apply Kd.R_drew)); exact HO_3.out) hb); have n1_ := Aside0.mk (Kd.S_lower ho0 (below_size (by repeat (first | (with_reducible first | exact HB.out | apply below_alloc | apply pw_below_drewN | apply below_drew1) | exact HB.out)))); have n2_ := Aside0.mk (below_step (by repeat (first | (with_reducible first | exact HB.out | apply below_alloc | apply pw_below_drewN | apply below_drew1) | exact HB.out)) hb); clear HO_3; clear HB; have HO_3 := n0_; have HO259 := n1_; have HB := n2_; clear n0_ n1_ n2_; (try clear hb); (try clear hb2); (try clear hk); (try clear hi); (try clear ho0)) | ((with_reducible refine gate_dst (N := 48) rfl ?_); (try (refine gate_guard (by rfl) ?_; dsimp only)); (with_reducible refine gate_callee (f := 16) rfl ?_); refine goesL_ (some 48) rfl rfl Try.func16 (by kernel_rfl) rfl #[.int .i64 t257] rfl (by (try simp only [List.map_toArray, List.map_cons, List.map_nil]); first | done | rfl | (simp only [List.length_drop, List.length_take]; rfl)) ?_; (with_reducible refine (wimplelaw0_Num.calls t257 t260 _ A18.out).mono ?_); rintro e w' ⟨rfl, ⟨nd, rfl⟩⟩; refine ⟨_, rfl, ?_⟩; obtain ⟨Ao22, co22, eo22⟩ := Kd.S_slice HO259.out; subst eo22))
            go_ret
            exact ⟨by first | rfl | (simp [errW_none, errW_some] <;> rfl) | (simp [*, errW_none, errW_some] <;> rfl), by repeat (first | (with_reducible first | exact HB.out | apply below_alloc | apply pw_below_drewN | apply below_drew1) | exact HB.out)⟩
          · rw [if_neg c19] at H
            exact absurd H (by simp)
        · rw [if_neg c17] at H
          have c17b0 : ((x3_3.length : Int) == 0) = false := beq_eq_false_iff_ne.mpr c17
          have c17b1 : ((x3_3.length : Int) != 0) = true := bne_iff_ne.mpr c17
          have c17b2 : ¬ (x3_3 = []) := fun h_ => c17 (by rw [h_]; rfl)
          replace H := Option.bind_eq_some_iff.mp H
          obtain ⟨t261, A230, H⟩ := H
          replace H : (if t261 = 0 then (if (t256.length : Int) = 1 then (if 0 < (t256.length : Int) then (if ((rd_T25 t256 0).f2) = x4_3 then (some ((((rd_T25 t256 0).f3).length : Int) == (x3_3.length : Int))) else (none)) else (none)) else (none)) else (none)) = some r := H
          have A23 := Aside0.mk A230
          clear A230
          by_cases c24 : t261 = 0
          · rw [if_pos c24] at H
            have c24b0 : (t261 == 0) = true := beq_iff_eq.mpr c24
            have c24b1 : (t261 != 0) = false := bne_eq_false_iff_eq.mpr c24
            clear c24
            by_cases c25 : (t256.length : Int) = 1
            · rw [if_pos c25] at H
              have c25b0 : ((t256.length : Int) == 1) = true := beq_iff_eq.mpr c25
              have c25b1 : ((t256.length : Int) != 1) = false := bne_eq_false_iff_eq.mpr c25
              clear c25
              by_cases c26 : 0 < (t256.length : Int)
              · rw [if_pos c26] at H
                have c26b0 : decide (0 < (t256.length : Int)) = true := decide_eq_true c26
                have c26b1 : decide (0 < t256.length) = true := decide_eq_true (by omega)
                clear c26
                by_cases c27 : ((rd_T25 t256 0).f2) = x4_3
                · rw [if_pos c27] at H
                  have c27b0 : (((rd_T25 t256 0).f2) == x4_3) = true := beq_iff_eq.mpr c27
                  have c27b1 : (((rd_T25 t256 0).f2) != x4_3) = false := bne_eq_false_iff_eq.mpr c27
                  clear c27
                  obtain rfl := Option.some.inj H
                  obtain ⟨Ao28, co28, eo28⟩ := Kd.R_slice HO_3.out
                  subst eo28
                  go_wp2_with (first | ((with_reducible refine gate_dst (N := 41) rfl ?_); (try (refine gate_guard (by rfl) ?_; dsimp only)); (with_reducible refine gate_callee (f := 10) rfl ?_); refine goesL_ (some 41) rfl rfl Try.func10 (by kernel_rfl) rfl #[.slice Ao28 x3_3.length co28] rfl (by (try simp only [List.map_toArray, List.map_cons, List.map_nil]); first | done | rfl | (simp only [List.length_drop, List.length_take]; rfl)) ?_; (with_reducible refine (sets_Group.calls _ _ x3_3 t256 t257 _ ?side1 ?side2 A16.out).mono ?_); (case side1 => repeat (first | exact (Kd.R_reads' HO_3.out).2.2 | (with_reducible refine Kd.C_alloc ?_ _) | (with_reducible refine Kd.C_drewN ?_ _) | (with_reducible refine Kd.C_drew ?_))); (case side2 => exact (Kd.R_reads' HO_3.out).2.1); rintro e w29 ⟨v258, rfl, ho0, hb⟩; refine ⟨_, rfl, ?_⟩; have n0_ := Aside0.mk (Kd.R_below (by (with_reducible repeat (first | apply Kd.R_alloc | apply Kd.R_drewN | apply Kd.R_drew)); exact HO_3.out) hb); have n1_ := Aside0.mk (Kd.S_lower ho0 (below_size (by repeat (first | (with_reducible first | exact HB.out | apply below_alloc | apply pw_below_drewN | apply below_drew1) | exact HB.out)))); have n2_ := Aside0.mk (below_step (by repeat (first | (with_reducible first | exact HB.out | apply below_alloc | apply pw_below_drewN | apply below_drew1) | exact HB.out)) hb); clear HO_3; clear HB; have HO_3 := n0_; have HO259 := n1_; have HB := n2_; clear n0_ n1_ n2_; (try clear hb); (try clear hb2); (try clear hk); (try clear hi); (try clear ho0)) | ((with_reducible refine gate_dst (N := 56) rfl ?_); (try (refine gate_guard (by rfl) ?_; dsimp only)); (with_reducible refine gate_callee (f := 16) rfl ?_); refine goesL_ (some 56) rfl rfl Try.func16 (by kernel_rfl) rfl #[.int .i64 t257] rfl (by (try simp only [List.map_toArray, List.map_cons, List.map_nil]); first | done | rfl | (simp only [List.length_drop, List.length_take]; rfl)) ?_; (with_reducible refine (wimplelaw0_Num.calls t257 t261 _ A23.out).mono ?_); rintro e w' ⟨rfl, ⟨nd, rfl⟩⟩; refine ⟨_, rfl, ?_⟩; obtain ⟨Ao30, co30, eo30⟩ := Kd.S_slice HO259.out; subst eo30; have p262 : 0 ≤ (0 : Int) := (by omega); have q262 : 0 < (t256.length : Int) := of_decide_eq_true (by first | (with_reducible assumption) | assumption); obtain ⟨ad262, A262_3, c262_3, e262, hx262_0, hx262_1, hx262_2, hx262_3, hl262_3, hi262_3⟩ := at_T25 (Kd.S_reads' HO259.out).2.2 0 p262 q262; cases e262; obtain ⟨ce262, hce262, hMe262, hcc262⟩ := Kd.S_get HO259.out z25 0 p262 (by first | exact q262 | exact of_decide_eq_true (by first | (with_reducible assumption) | assumption) | (have e_ := (Kd.S_reads' HO259.out).1; omega)); obtain ⟨ve262_3, rfl, ge262_3⟩ := k25_openM hMe262; have hv262_3 := hcc262 3 _ rfl; rw [add_field _ _ 3 (by omega)] at hv262_3; replace hv262_3 := Option.some.inj (hv262_3.symm.trans hx262_3); rw [hv262_3] at ge262_3; have HL262_3 := Aside0.mk (show Kd.R Kd.string 9 _ _ _ _ ((rd_T25 t256 0).f3) from ge262_3); clear hv262_3 ge262_3; clear hcc262 hce262; have qi262 : (0 < t256.length) = True := eq_true (by omega); (try rw [show ((0 : Int)).toNat = 0 from rfl] at hx262_0); (try rw [show 0 * 4 = 0 from rfl] at hx262_0); (try rw [Addr.add_zero'] at hx262_0); (try rw [show ((0 : Int)).toNat = 0 from rfl] at hx262_1); (try rw [show 0 * 4 = 0 from rfl] at hx262_1); (try rw [Addr.add_zero'] at hx262_1); (try rw [show ((0 : Int)).toNat = 0 from rfl] at hx262_2); (try rw [show 0 * 4 = 0 from rfl] at hx262_2); (try rw [Addr.add_zero'] at hx262_2); (try rw [show ((0 : Int)).toNat = 0 from rfl] at hx262_3); (try rw [show 0 * 4 = 0 from rfl] at hx262_3); (try rw [Addr.add_zero'] at hx262_3); have HR262_3 := Aside0.mk hi262_3; have HC262_3 := Aside0.mk hl262_3; clear hi262_3 hl262_3; replace p262 := eq_true p262; replace q262 := eq_true q262; have p263 : 0 ≤ (0 : Int) := (by omega); have q263 : 0 < (t256.length : Int) := of_decide_eq_true (by first | (with_reducible assumption) | assumption); obtain ⟨ad263, A263_3, c263_3, e263, hx263_0, hx263_1, hx263_2, hx263_3, hl263_3, hi263_3⟩ := at_T25 (Kd.S_reads' HO259.out).2.2 0 p263 q263; obtain rfl : ad262 = ad263 := (by injection e263); obtain ⟨ce263, hce263, hMe263, hcc263⟩ := Kd.S_get HO259.out z25 0 p263 (by first | exact q263 | exact of_decide_eq_true (by first | (with_reducible assumption) | assumption) | (have e_ := (Kd.S_reads' HO259.out).1; omega)); obtain ⟨ve263_3, rfl, ge263_3⟩ := k25_openM hMe263; have hv263_3 := hcc263 3 _ rfl; rw [add_field _ _ 3 (by omega)] at hv263_3; replace hv263_3 := Option.some.inj (hv263_3.symm.trans hx263_3); rw [hv263_3] at ge263_3; have HL263_3 := Aside0.mk (show Kd.R Kd.string 9 _ _ _ _ ((rd_T25 t256 0).f3) from ge263_3); clear hv263_3 ge263_3; clear hcc263 hce263; have qi263 : (0 < t256.length) = True := eq_true (by omega); (try rw [show ((0 : Int)).toNat = 0 from rfl] at hx263_0); (try rw [show 0 * 4 = 0 from rfl] at hx263_0); (try rw [Addr.add_zero'] at hx263_0); (try rw [show ((0 : Int)).toNat = 0 from rfl] at hx263_1); (try rw [show 0 * 4 = 0 from rfl] at hx263_1); (try rw [Addr.add_zero'] at hx263_1); (try rw [show ((0 : Int)).toNat = 0 from rfl] at hx263_2); (try rw [show 0 * 4 = 0 from rfl] at hx263_2); (try rw [Addr.add_zero'] at hx263_2); (try rw [show ((0 : Int)).toNat = 0 from rfl] at hx263_3); (try rw [show 0 * 4 = 0 from rfl] at hx263_3); (try rw [Addr.add_zero'] at hx263_3); have HR263_3 := Aside0.mk hi263_3; have HC263_3 := Aside0.mk hl263_3; clear hi263_3 hl263_3; replace p263 := eq_true p263; replace q263 := eq_true q263; have ea_ := Option.some.inj (hx262_3.symm.trans hx263_3); injection ea_ with ea_ en_ ec_; subst ea_; subst ec_; clear en_))
                  go_ret
                  exact ⟨by first | rfl | (simp [errW_none, errW_some] <;> rfl) | (simp [*, errW_none, errW_some] <;> rfl), by repeat (first | (with_reducible first | exact HB.out | apply below_alloc | apply pw_below_drewN | apply below_drew1) | exact HB.out)⟩
                · rw [if_neg c27] at H
                  exact absurd H (by simp)
              · rw [if_neg c26] at H
                exact absurd H (by simp)
            · rw [if_neg c25] at H
              exact absurd H (by simp)
          · rw [if_neg c24] at H
            exact absurd H (by simp)
  · replace c3 := Bool.eq_false_iff.mpr c3
    subst c3
    have H1 : (none) = some r := by rw [if_neg (show ¬ (false = true) by decide)] at H; exact H
    clear H
    have H := H1
    clear H1
    exact absurd H (by simp)

/-- THE ONE PURE STATEMENT of wimplelaw11_GroupTtls: yours. -/
def wimplelaw11_GroupTtls.Pure : Prop := ∀ (l0 : List Int), l0.length ≤ maxLen → l0.length * 8 ≤ 140737488351232 → (∀ x ∈ l0, (Lit.int .i64 x).wf = true) → ∃ k, wimplelaw11_GroupTtls.f k l0 = some true
theorem wimplelaw11_GroupTtls.walk (P : wimplelaw11_GroupTtls.Pure) (a0 : Option Addr) (len0 cap0 : Nat) (z0 : List Int) (w : World) (w0 : (a0 = none ∧ len0 = 0 ∧ cap0 = 0 ∧ z0 = []) ∨ ∃ x, a0 = some x ∧ len0 ≤ cap0 ∧ cap0 ≤ maxLen ∧ z0.length = cap0 ∧ (∀ i, i < z0.length → w.cell? (x.add i) = some (.int .i64 (z0.getD i 0))) ∧ ∀ n ∈ z0, (Lit.int .i64 n).wf = true) (y0 : len0 * 8 ≤ 140737488351232) :
    Calls Try.prog 8 #[.slice a0 len0 cap0] w fun e w' => e = .returned (.bool true) ∧ Below w.heap.size w w' := by
  obtain ⟨l0, rfl, hr0, hm0, hw0, hc0⟩ := ReadsInt.ofRowC w0
  obtain ⟨k, h⟩ := P l0 hm0 y0 hw0
  refine (wimplelaw11_GroupTtls.calls k _ _ l0 true w (Kd.C_of_reads (d := (0 : Int)) (h1 := fun _ => rfl) hr0) hc0 h).mono ?_
  rintro e w' ⟨rfl, hd⟩
  exact ⟨rfl, hd⟩

end Go.Proofs.Ythlajjcdmhgcmaa.PGt

namespace Go.Proofs.Ythlajjcdmhgcmaa.Pu
open Go.RowKit Go.Proofs.YthlajjcdmhgcmaaW.PrintWords
set_option linter.unusedVariables false

/-! ### whole numbers -/
theorem w64 {x : Int} (h0 : -9223372036854775808 ≤ x) (h1 : x ≤ 9223372036854775807) : wrap64 x = x := by unfold wrap64; omega
theorem wraps_i64 (n : Int) (h0 : 0 ≤ n) (h1 : n < 2 ^ 63) : IntKind.i64.wrap n = n := by
  rw [IntKind.wrap_i64]; omega
theorem and_mask (i : Nat) (hi : i ≤ 63) (x : Int) : Go.bits .and .i64 x (2 ^ i - 1) = x % 2 ^ i := by
  have hpos : 0 < 2 ^ i := Nat.two_pow_pos i
  have hle : 2 ^ i ≤ 2 ^ 63 := Nat.pow_le_pow_right (by decide) hi
  have hc : ((2 : Int) ^ i - 1) = ((2 ^ i - 1 : Nat) : Int) := by rw [Int.natCast_sub hpos]; simp
  have hm : (2 ^ i - 1) % 2 ^ 64 = 2 ^ i - 1 := Nat.mod_eq_of_lt (by omega)
  have hx : (BitVec.ofInt 64 x).toNat = (x % 18446744073709551616).toNat := by simp [BitVec.toNat_ofInt]
  have e : ((x % 18446744073709551616).toNat : Int) = x % 18446744073709551616 := by omega
  have hd : (2 : Int) ^ i ∣ 18446744073709551616 := by
    have : (18446744073709551616 : Int) = 2 ^ i * 2 ^ (64 - i) := by rw [← Int.pow_add]; rw [show i + (64 - i) = 64 by omega]; decide
    exact ⟨_, this⟩
  rw [hc]
  show IntKind.i64.wrap (((BitVec.ofInt 64 x &&& BitVec.ofInt 64 ((2 ^ i - 1 : Nat) : Int)).toNat : Nat) : Int) = _
  rw [BitVec.toNat_and, BitVec.ofInt_natCast, BitVec.toNat_ofNat, hm, hx, Nat.and_two_pow_sub_one_eq_mod]
  have e2 : (((x % 18446744073709551616).toNat % 2 ^ i : Nat) : Int) = x % 2 ^ i := by
    rw [Int.natCast_emod, e]; push_cast
    exact Int.emod_emod_of_dvd _ hd
  rw [e2]
  have h2 : (0 : Int) < 2 ^ i := by exact_mod_cast hpos
  have h3 : (2 : Int) ^ i ≤ 2 ^ 63 := by exact_mod_cast hle
  have := Int.emod_nonneg x (Int.ne_of_gt h2)
  have := Int.emod_lt_of_pos x h2
  exact wraps_i64 _ (by assumption) (by omega)
theorem and_4294967295 (x : Int) : Go.bits .and .i64 x 4294967295 = x % 4294967296 := and_mask 32 (by decide) x
/-! ### lists -/
/-! ### strings as bytes -/
/-! ### from some number of rounds on -/
section
variable {α β : Type} {r : α}
theorem Ev.pos {c : Prop} [Decidable c] {f g : Nat → Option α} (h : c) (k : Ev f r) : Ev (fun n => if c then f n else g n) r := by
  simp only [if_pos h]; exact k
theorem Ev.neg {c : Prop} [Decidable c] {f g : Nat → Option α} (h : ¬ c) (k : Ev g r) : Ev (fun n => if c then f n else g n) r := by
  simp only [if_neg h]; exact k
theorem Ev.some (f : Nat → Option α) (h : ∀ n, f n = some r) : Ev f r := ⟨0, fun n _ => h n⟩
/-- A call that needs no rounds. -/
theorem Ev.call {g : Option β} {f : Nat → β → Option α} {a : β} (h : g = Option.some a) (k : Ev (fun n => f n a) r) : Ev (fun n => g.bind (f n)) r := by
  subst h; exact k
end
end Go.Proofs.Ythlajjcdmhgcmaa.Pu

namespace Go.Proofs.Ythlajjcdmhgcmaa.Pure
open Go.RowKit Go.Proofs.Ythlajjcdmhgcmaa.PGt Go.Proofs.Ythlajjcdmhgcmaa.Pu Go.Proofs.Ythlajjcdmhgcmaa.Gr
open Go.Proofs.YthlajjcdmhgcmaaW.PrintWords (Ev Ev.of Ev.bind Ev.step Ev.rounds rd mn)
set_option linter.unusedVariables false
def nA : ByteArray := ⟨#[1, 97, 0]⟩
def dAt (i : Nat) : ByteArray := ⟨#[97, 98, 99]⟩ ++ strOfNums [(i : Int) % 256]
def rT (l : List Int) (i : Nat) : Rr := ⟨nA, 1, 1, rd l i % 4294967296, dAt i⟩
def least (l : List Int) : Nat → Int
  | 0 => 86400
  | n + 1 => mn (least l n) (rd l n % 4294967296)
def rowsT (l : List Int) (n : Nat) : List Rr := (List.range n).map (rT l)
def rowsS (l : List Int) (n : Nat) : List S43 := (rowsT l n).map fun r => ⟨r.name, r.type, r.cls, r.ttl, r.data⟩
theorem rows_len (l : List Int) (n : Nat) : (rowsT l n).length = n := by simp [rowsT]
theorem rows_succ (l : List Int) (n : Nat) : rowsT l (n + 1) = rowsT l n ++ [rT l n] := by simp [rowsT, List.range_succ]
theorem back (l : List Int) (n : Nat) : (rowsS l n).map gr_R = rowsT l n := by
  unfold rowsS
  rw [List.map_map]
  conv => rhs; rw [← List.map_id (rowsT l n)]
  exact List.map_congr_left (fun x _ => rfl)
theorem dAt_ok : ∀ i, i < 64 → (dAt i).size = 4 ∧ Rd.mayD 1 (dAt i) = true := by decide +kernel
theorem dAt_inj : ∀ i, i < 64 → ∀ j, j < 64 → dAt i = dAt j → i = j := by decide +kernel
theorem nA_fold : Fo.foldN nA = nA := by decide +kernel
theorem nA_ok : Nm.nameB nA = true := by decide +kernel
theorem okT (l : List Int) (i : Nat) (h : i < 64) : okG (rT l i) = true := by
  have := Int.emod_nonneg (rd l i) (show (4294967296 : Int) ≠ 0 by decide)
  have := Int.emod_lt_of_pos (rd l i) (show (0 : Int) < 4294967296 by decide)
  unfold okG rT
  dsimp only
  rw [nA_ok, (dAt_ok i h).2, decide_eq_true (by omega), decide_eq_true (by omega)]
  rfl
theorem all_ok (l : List Int) (n : Nat) (h : n ≤ 64) : (rowsT l n).all okG = true := by
  rw [List.all_eq_true]
  intro x hx
  obtain ⟨i, hi, rfl⟩ := List.mem_map.1 hx
  exact okT l i (by have := List.mem_range.1 hi; omega)
theorem fit (l : List Int) (n : Nat) (h : n ≤ 64) : fitG (rowsT l n) = true := by
  unfold fitG
  rw [Bool.and_eq_true, List.all_eq_true]
  refine ⟨fun x hx => ?_, by rw [rows_len]; simp; omega⟩
  obtain ⟨i, hi, rfl⟩ := List.mem_map.1 hx
  have : (rT l i).data.size = 4 := (dAt_ok i (by have := List.mem_range.1 hi; omega)).1
  rw [this]; decide
theorem mn_min (a b : Int) : min a b = mn a b := by unfold mn; split <;> omega
theorem fold_rows (l : List Int) : ∀ n, (rowsT l (n + 1)).foldl Gr.stepG [] = [⟨nA, 1, least l (n + 1), (List.range (n + 1)).map dAt⟩]
  | 0 => by
    show Gr.stepG [] (rT l 0) = _
    unfold Gr.stepG rT
    rw [if_pos rfl, nA_fold]
    unfold putIn
    rw [mn_min]; rfl
  | n + 1 => by
    rw [rows_succ, List.foldl_append, fold_rows l n]
    show Gr.stepG [_] (rT l (n + 1)) = _
    unfold Gr.stepG rT
    rw [if_pos rfl, nA_fold]
    unfold putIn
    rw [if_pos ⟨rfl, rfl⟩]
    dsimp only
    rw [mn_min, List.range_succ (n := n + 1), List.map_append]; rfl
theorem datas_len (n : Nat) (h : n ≤ 64) : (normD ((List.range n).map dAt)).length = n := by
  rw [normD_len, List.length_map, List.length_range]
  unfold List.Nodup
  rw [List.pairwise_map, List.pairwise_iff_getElem]
  intro i j hi hj hij
  simp only [List.length_range] at hi hj
  rw [List.getElem_range, List.getElem_range]
  intro e
  have := dAt_inj i (by omega) j (by omega) e
  omega
theorem groups (l : List Int) (n : Nat) (h : n + 1 ≤ 64) : sets_Group.f (rowsS l (n + 1)) = some ([⟨nA, 1, least l (n + 1), normD ((List.range (n + 1)).map dAt)⟩], 0) := by
  unfold sets_Group.f
  rw [back, groupF_of (fit l _ h), groupV_ok (by rw [rows_len]; exact h) (all_ok l _ h), fold_rows]
  rfl
theorem groups0 (l : List Int) : sets_Group.f (rowsS l 0) = some ([], 0) := by
  unfold sets_Group.f
  rw [back, groupF_of (fit l _ (by decide)), groupV_ok (by rw [rows_len]; decide) (all_ok l _ (by decide))]
  rfl
theorem num_eq (x : Int) : wimplelaw0_Num.f x = some x := rfl
theorem ttls_end (l : List Int) (n : Nat) (h : n ≤ 64) : Ev (fun k => wimplelaw11_GroupTtls.j1 k (rowsS l n) (least l n)) true := by
  refine Ev.step (fun k => by rw [wimplelaw11_GroupTtls.j1]) ?_
  have hlen : (rowsS l n).length = n := by unfold rowsS; rw [List.length_map, rows_len]
  rw [hlen]
  cases n with
  | zero => exact Ev.call (groups0 l) (Ev.pos rfl (Ev.call (num_eq _) (Ev.pos rfl (Ev.some _ fun _ => rfl))))
  | succ n =>
    refine Ev.call (groups l n h) (Ev.neg (by omega) (Ev.call (num_eq _) (Ev.pos rfl (Ev.pos rfl (Ev.pos (by show (0 : Int) < 1; decide) (Ev.pos rfl (Ev.some _ fun _ => ?_)))))))
    show some ((((normD ((List.range (n + 1)).map dAt)).length : Nat) : Int) == ((n + 1 : Nat) : Int)) = some true
    rw [datas_len _ h]; simp
theorem ttls_loop (l : List Int) (hl : l.length ≤ 9223372036854775807) : ∀ (d i : Nat), i + d = min l.length 64 → Ev (fun k => wimplelaw11_GroupTtls.l0 k l (rowsS l i) (least l i) i) true
  | 0, i, h => by
    have hi : i ≤ 64 := by omega
    refine Ev.step (fun k => by rw [wimplelaw11_GroupTtls.l0]) ?_
    by_cases h1 : (i : Int) < (l.length : Int)
    · exact Ev.pos h1 (Ev.neg (by omega) (ttls_end l i hi))
    · exact Ev.neg h1 (ttls_end l i hi)
  | d + 1, i, h => by
    have hi : i < 64 := by omega
    refine Ev.step (fun k => by rw [wimplelaw11_GroupTtls.l0]) ?_
    refine Ev.pos (by omega) (Ev.pos (by omega) (Ev.pos (by omega) (Ev.call rfl ?_)))
    have hz : 3 + (strOfNums [(i : Int) % 256]).size = 4 := by rw [Go.strOfNums_size]; rfl
    refine Ev.pos (by rw [hz]; decide) (Ev.pos (by unfold rowsS; rw [List.length_map, rows_len]; omega) ?_)
    rw [and_4294967295, w64 (by omega) (by omega)]
    have e1 : rowsS l i ++ [(⟨⟨#[1, 97, 0]⟩, 1, 1, rd l i % 4294967296, ⟨#[97, 98, 99]⟩ ++ strOfNums [(i : Int) % 256]⟩ : S43)] = rowsS l (i + 1) := by
      unfold rowsS
      rw [rows_succ, List.map_append]; rfl
    rw [e1]
    have := ttls_loop l hl d (i + 1) (by omega)
    exact this
theorem GroupTtls : wimplelaw11_GroupTtls.Pure := by
  intro l0 h1 _ _
  exact Ev.rounds (Ev.call (g := wimplelaw11_awake.f) rfl (Ev.pos rfl (ttls_loop l0 (by unfold maxLen at h1; omega) (min l0.length 64) 0 (by omega))))
end Go.Proofs.Ythlajjcdmhgcmaa.Pure

namespace Go.Proofs.Ythlajjcdmhgcmaa.groupTtls
open Go.ChangeShapes Go.WideShapes Go.ChangeAt Go.RowKit
open Go.ChangeMaps (open_string shut_string)
set_option linter.unusedVariables false
theorem own : ownKnob Try.prog.godebug = none := by kernel_rfl
theorem laidOut : laidOutB Try.prog = true := by kernel_rfl
def IsRow (k : IntKind) (w : World) (a : Option Addr) (len cap : Nat) (zs : List Int) : Prop :=
  (a = none ∧ len = 0 ∧ cap = 0 ∧ zs = []) ∨
  ∃ x, a = some x ∧ len ≤ cap ∧ cap ≤ maxLen ∧ zs.length = cap ∧ (∀ i, i < zs.length → w.cell? (x.add i) = some (.int k (zs.getD i 0))) ∧ ∀ n ∈ zs, (Lit.int k n).wf = true
set_option maxRecDepth 100000 in
theorem lifted (os : Os) (started : os.Started) (H : Type) (enc : TypeId × Value → H) :
    ReturnsInHanded {} Try.checked os 8 .any (Rows.groupTtlsSpec.pre6 enc Try.prog Try.f8 Rows.groupTtlsRow.domain false) (Rows.groupTtlsSpec.post enc Try.prog Try.f8 false true false false) := by
  refine returnsInHanded_of_change_sized (C := Try.checked) own started (by kernel_rfl) Try.func8
    (ChangeSpec.witness6 (enc := enc) (C := Try.checked) false ⟨#[], #[.slice none 0 0], []⟩ 8 (by kernel_rfl) (by kernel_rfl) (by kernel_rfl) (by kernel_rfl)) ?_
  intro W base args ds gs before hval0 hW hcnd hsz0 _
  have hsz : (DataW.weightsEach Try.prog (Try.f8.params.toList ++ Rows.groupTtlsSpec.plain.varTypes Try.prog) (ds ++ gs)).all (· ≤ reachBytes) = true := hsz0
  have hval : ∀ (j : Nat) t v, Try.f8.params[j]? = some t → args[j]? = some v → Value.okWide Try.prog W .any base t v := hval0
  have hW' := hW
  obtain ⟨p, q, hA0, hV, rfl, hfz, hnd⟩ := hW
  have hA : DataW.TrodAll enc Try.prog W 0 (fun _ => true) true Try.f8.params.toList args.toList ds p := hA0
  rw [Try.params8] at hA hval hsz
  obtain ⟨v0, vs0, d0, ds0, p0, q0, hargs, rfl, rfl, h0, r0⟩ := trodAll_cons hA
  obtain ⟨rfl, rfl, rfl⟩ := trodAll_nil r0
  obtain rfl : args = #[v0] := by cases args; simp_all
  obtain ⟨rfl, rfl⟩ := trodVars_none hV
  obtain ⟨a0, len0, cap0, rfl⟩ := okWide_slice Try.underlying49 (hval 0 49 v0 rfl rfl)
  have k0 := h0
  have lt0 : ∀ x ∈ p0, x.block < W.heap.size := by obtain ⟨m, hm⟩ := k0; exact DataW.trod_lt m _ _ _ hm
  obtain ⟨z0, w0⟩ : ∃ zs, IsRow .i64 W a0 len0 cap0 zs := by
    obtain ⟨fuel, hf⟩ := h0
    rcases open_ints Try.underlying49 Try.underlying3 (by kernel_rfl) hf with ⟨hcs, _⟩ | ⟨x, l, c, zs, hcs, _, hl, hm, hz, _, hcell, hwz⟩
    · simp [Value.cells] at hcs
      obtain ⟨rfl, rfl, rfl⟩ := hcs
      exact ⟨[], .inl ⟨rfl, rfl, rfl, rfl⟩⟩
    · simp [Value.cells] at hcs
      obtain ⟨rfl, rfl, rfl⟩ := hcs
      exact ⟨zs, .inr ⟨_, rfl, hl, hm, by simpa using hz, hcell, hwz⟩⟩
  have y0 : len0 * 8 ≤ 140737488351232 := Go.Proofs.YthlajjcdmhgcmaaW.PrintWords.sized_ints hsz (j := 0) (t := 49) rfl rfl Try.underlying49 Try.underlying3 (by kernel_rfl) (by kernel_rfl) h0
  clear hA0 hval0 hsz0 hsz
  refine (PGt.wimplelaw11_GroupTtls.walk Pure.GroupTtls a0 len0 cap0 z0 W w0 y0).mono fun e W' ⟨he, bel⟩ => ?_
  subst he
  exact ⟨_, rfl, _, _, _, [], _, [], hW', trodAll_mk1 (shut_bool Try.underlying4 _), (trodAll_cons_mk (Below.trod laidOut (by kernel_rfl) (of_decide_eq_true (by kernel_rfl)) k0 bel lt0) trodAll_mk0), rfl, bel.frame _, fun h => by cases h⟩
theorem over : Rows.groupTtlsRow.holds Try.pinned (OpenSpec.ofChange Rows.groupTtlsSpec) :=
  OpenClaim.holds_of_wide 8 Try.f8 rfl rfl rfl rfl rfl rfl rfl ⟨rfl, rfl, rfl, rfl, rfl⟩ rfl rfl rfl rfl rfl (by kernel_rfl) Try.func8 (by kernel_rfl)
    (of_decide_eq_true (by kernel_rfl)) (by unfold Func.isWrapper; first | (rw [if_pos (by decide +kernel)]; kernel_rfl) | (rw [if_neg (by decide +kernel)]; exact ⟨rfl, rfl⟩))
    (fun os started H enc _ => lifted os started H enc)
theorem proved : Rows.GroupTtlsSaid := over
end Go.Proofs.Ythlajjcdmhgcmaa.groupTtls
namespace Go.Proofs.Ythlajjcdmhgcmaa
/-- The row, under a short name, for the claim. -/
theorem groupTtls_holds : Rows.GroupTtlsSaid := groupTtls.proved
end Go.Proofs.Ythlajjcdmhgcmaa
