-- Written by a program of this session out of the translation (the kit's print, changed: ppatch.py); not the kit's own print.
import Derived.Test.YtndcjleadggibaaPRdTx0
import Derived.Test.YtndcjleadggibaaPRdTx1
import Derived.Test.YtndcjleadggibaaPRdTx2
import Derived.Test.YtndcjleadggibaaPRdTx3
import Derived.Test.YtndcjleadggibaaPRdTx4
namespace Go.Proofs.Ytndcjleadggibaa.PRdT
open Go.RowKit Go.Proofs.YtndcjleadggibaaW.PrintWords Go.Proofs.YtndcjleadggibaaW.PrintLast Go.Proofs.YtndcjleadggibaaW.PrintMore
attribute [local go_sem] max2_int min2_int max_two min_two max_three min_three max_four min_four   -- for this text's walks alone
set_option linter.unusedVariables false
set_option linter.unusedSimpArgs false

attribute [local go_sem high] eqA59
/-! ### wimplelaw4_RdataBack: function 9 -/
mutual
def wimplelaw4_RdataBack.j0 : Nat → Int → ByteArray → List ByteArray → Bool → ByteArray → ByteArray → Int → Int → Int → Int → Int → Option (Bool)
  | 0, _, _, _, _, _, _, _, _, _, _, _ => none
  | k + 1, x0, x1, x3, x56, x189000, x189001, x189002, x189003, x189004, x189005, x189006 => if x56 = true then (none) else ((rdata_Mx.f (Go.bits .and .i64 x0 65535) x1).bind fun bt197 => ((wimplelaw0_Num.f bt197.2).bind fun t199 => ((wimpleref1_May.f x1).bind fun t200 => (if ((t199 == 0) != t200) = true then (none) else ((wimplelaw0_Num.f bt197.2).bind fun t201 => (if t201 = 0 then ((rdata_Host.f 15 bt197.1).bind fun bt202 => ((rdata_Host.f 2 x1).bind fun bt204 => ((wimplelaw0_Num.f bt202.2).bind fun t206 => (if t206 = 0 then (if bt202.1.toList = x1.toList then ((wimplelaw0_Num.f bt204.2).bind fun t207 => (if t207 = 0 then (if bt204.1.toList = x1.toList then ((rdata_May.f 15 bt197.1).bind fun t208 => (if t208 = true then ((rdata_May.f 5 x1).bind fun t209 => (if t209 = true then (wimplelaw4_RdataBack.j1 k x3 x189000 x189001 x189002 x189003 x189004 x189005 x189006) else (none))) else (none))) else (none)) else (none))) else (none)) else (none))))) else (wimplelaw4_RdataBack.j1 k x3 x189000 x189001 x189002 x189003 x189004 x189005 x189006)))))))
def wimplelaw4_RdataBack.j1 : Nat → List ByteArray → ByteArray → ByteArray → Int → Int → Int → Int → Int → Option (Bool)
  | 0, _, _, _, _, _, _, _, _ => none
  | k + 1, x3, x189000, x189001, x189002, x189003, x189004, x189005, x189006 => (rdata_Soa.f x189000 x189001 x189002 x189003 x189004 x189005 x189006).bind fun bt210 => ((wimplelaw0_Num.f bt210.2).bind fun t212 => (if t212 = 0 then ((rdata_Unsoa.f bt210.1).bind fun bt213 => ((wimplelaw0_Num.f bt213.2.2.2.2.2.2.2).bind fun t222 => (if t222 = 0 then (if (!(bt213.1.toList == x189000.toList) || (!(bt213.2.1.toList == x189001.toList) || (!(bt213.2.2.1 == x189002) || (!(bt213.2.2.2.1 == x189003) || (!(bt213.2.2.2.2.1 == x189004) || (!(bt213.2.2.2.2.2.1 == x189005) || (!(bt213.2.2.2.2.2.2.1 == x189006)))))))) = true then (none) else ((rdata_May.f 6 bt210.1).bind fun t223 => (if t223 = true then (if bt210.1.size + 1 ≤ 9223372036854775807 then ((rdata_May.f 6 (bt210.1 ++ (⟨#[97]⟩ : ByteArray))).bind fun t224 => (if t224 = true then (none) else (wimplelaw4_RdataBack.j2 k x3))) else (none)) else (none)))) else (none)))) else (wimplelaw4_RdataBack.j2 k x3)))
def wimplelaw4_RdataBack.j2 : Nat → List ByteArray → Option (Bool)
  | 0, _ => none
  | k + 1, x3 => (rdata_Txt.f k x3).bind fun bt225 => ((wimplelaw0_Num.f bt225.2).bind fun t227 => (if t227 = 0 then ((wimplelaw0_Num.f bt225.2).bind fun t228 => (if t228 = 0 then ((rdata_May.f 16 bt225.1).bind fun t229 => (some t229)) else (none))) else (if bt225.1.toList = ([] : List UInt8) then (some true) else ((wimplelaw0_Num.f bt225.2).bind fun t230 => (if t230 = 0 then ((rdata_May.f 16 bt225.1).bind fun t231 => (some t231)) else (none))))))
end
def wimplelaw4_RdataBack.f (k : Nat) (a0 : Int) (a1 : ByteArray) (a2_0 : ByteArray) (a2_1 : ByteArray) (a2_2 : Int) (a2_3 : Int) (a2_4 : Int) (a2_5 : Int) (a2_6 : Int) (l3 : List ByteArray) : Option (Bool) := (wimplelaw4_awake.f k).bind fun t189 => (if t189 = true then ((rdata_A.f (Go.bits .and .i64 a0 4294967295)).bind fun bt190 => ((rdata_Addr.f bt190.1).bind fun bt192 => ((wimplelaw0_Num.f bt190.2).bind fun t194 => (if t194 = 0 then ((wimplelaw0_Num.f bt192.2).bind fun t195 => (if t195 = 0 then (if bt192.1 = (Go.bits .and .i64 a0 4294967295) then ((rdata_May.f 1 bt190.1).bind fun t196 => (wimplelaw4_RdataBack.j0 k a0 a1 l3 (!t196) a2_0 a2_1 a2_2 a2_3 a2_4 a2_5 a2_6)) else (wimplelaw4_RdataBack.j0 k a0 a1 l3 true a2_0 a2_1 a2_2 a2_3 a2_4 a2_5 a2_6)) else (wimplelaw4_RdataBack.j0 k a0 a1 l3 true a2_0 a2_1 a2_2 a2_3 a2_4 a2_5 a2_6))) else (wimplelaw4_RdataBack.j0 k a0 a1 l3 true a2_0 a2_1 a2_2 a2_3 a2_4 a2_5 a2_6))))) else (none))
theorem wimplelaw4_RdataBack.mono_l : ∀ k, (∀ y0 y1 y2 y3 y4 y5 y6 y7 y8 y9 y10, LeO (wimplelaw4_RdataBack.j0 k y0 y1 y2 y3 y4 y5 y6 y7 y8 y9 y10) (wimplelaw4_RdataBack.j0 (k + 1) y0 y1 y2 y3 y4 y5 y6 y7 y8 y9 y10)) ∧ (∀ y0 y1 y2 y3 y4 y5 y6 y7, LeO (wimplelaw4_RdataBack.j1 k y0 y1 y2 y3 y4 y5 y6 y7) (wimplelaw4_RdataBack.j1 (k + 1) y0 y1 y2 y3 y4 y5 y6 y7)) ∧ (∀ y0, LeO (wimplelaw4_RdataBack.j2 k y0) (wimplelaw4_RdataBack.j2 (k + 1) y0))
  | 0 => ⟨fun _ _ _ _ _ _ _ _ _ _ _ r h => by simp [wimplelaw4_RdataBack.j0] at h, fun _ _ _ _ _ _ _ _ r h => by simp [wimplelaw4_RdataBack.j1] at h, fun _ r h => by simp [wimplelaw4_RdataBack.j2] at h⟩
  | k + 1 => by
    obtain ⟨ih0, ih1, ih2⟩ := wimplelaw4_RdataBack.mono_l k
    refine ⟨?_, ?_, ?_⟩
    · intro y0 y1 y2 y3 y4 y5 y6 y7 y8 y9 y10
      unfold wimplelaw4_RdataBack.j0
      repeat' first
      | (with_reducible exact ih0 _ _ _ _ _ _ _ _ _ _ _)
      | (with_reducible exact ih1 _ _ _ _ _ _ _ _)
      | (with_reducible exact ih2 _)
      | (with_reducible exact rdata_Txt.mono _ _)
      | (with_reducible exact wimplelaw4_awake.mono _)
      | (with_reducible exact LeO.refl _)
      | (with_reducible exact LeO.none _)
      | (with_reducible refine LeO.ite ?_ ?_)
      | (with_reducible refine LeO.bind ?_ (fun _ => ?_))
      | exact ih0 _ _ _ _ _ _ _ _ _ _ _
      | exact ih1 _ _ _ _ _ _ _ _
      | exact ih2 _
      | exact rdata_Txt.mono _ _
      | exact wimplelaw4_awake.mono _
      | exact LeO.none _
      | refine LeO.ite ?_ ?_
      | refine LeO.bind ?_ (fun _ => ?_)
    · intro y0 y1 y2 y3 y4 y5 y6 y7
      unfold wimplelaw4_RdataBack.j1
      repeat' first
      | (with_reducible exact ih0 _ _ _ _ _ _ _ _ _ _ _)
      | (with_reducible exact ih1 _ _ _ _ _ _ _ _)
      | (with_reducible exact ih2 _)
      | (with_reducible exact rdata_Txt.mono _ _)
      | (with_reducible exact wimplelaw4_awake.mono _)
      | (with_reducible exact LeO.refl _)
      | (with_reducible exact LeO.none _)
      | (with_reducible refine LeO.ite ?_ ?_)
      | (with_reducible refine LeO.bind ?_ (fun _ => ?_))
      | exact ih0 _ _ _ _ _ _ _ _ _ _ _
      | exact ih1 _ _ _ _ _ _ _ _
      | exact ih2 _
      | exact rdata_Txt.mono _ _
      | exact wimplelaw4_awake.mono _
      | exact LeO.none _
      | refine LeO.ite ?_ ?_
      | refine LeO.bind ?_ (fun _ => ?_)
    · intro y0
      unfold wimplelaw4_RdataBack.j2
      repeat' first
      | (with_reducible exact ih0 _ _ _ _ _ _ _ _ _ _ _)
      | (with_reducible exact ih1 _ _ _ _ _ _ _ _)
      | (with_reducible exact ih2 _)
      | (with_reducible exact rdata_Txt.mono _ _)
      | (with_reducible exact wimplelaw4_awake.mono _)
      | (with_reducible exact LeO.refl _)
      | (with_reducible exact LeO.none _)
      | (with_reducible refine LeO.ite ?_ ?_)
      | (with_reducible refine LeO.bind ?_ (fun _ => ?_))
      | exact ih0 _ _ _ _ _ _ _ _ _ _ _
      | exact ih1 _ _ _ _ _ _ _ _
      | exact ih2 _
      | exact rdata_Txt.mono _ _
      | exact wimplelaw4_awake.mono _
      | exact LeO.none _
      | refine LeO.ite ?_ ?_
      | refine LeO.bind ?_ (fun _ => ?_)
theorem wimplelaw4_RdataBack.mono : ∀ a0 a1 a2 a3 a4 a5 a6 a7 a8 a9 k, LeO (wimplelaw4_RdataBack.f k a0 a1 a2 a3 a4 a5 a6 a7 a8 a9) (wimplelaw4_RdataBack.f (k + 1) a0 a1 a2 a3 a4 a5 a6 a7 a8 a9) := by
  intro a0 a1 a2 a3 a4 a5 a6 a7 a8 a9 k
  obtain ⟨ih0, ih1, ih2⟩ := wimplelaw4_RdataBack.mono_l k
  unfold wimplelaw4_RdataBack.f
  repeat' first
      | (with_reducible exact ih0 _ _ _ _ _ _ _ _ _ _ _)
      | (with_reducible exact ih1 _ _ _ _ _ _ _ _)
      | (with_reducible exact ih2 _)
      | (with_reducible exact rdata_Txt.mono _ _)
      | (with_reducible exact wimplelaw4_awake.mono _)
      | (with_reducible exact LeO.refl _)
      | (with_reducible exact LeO.none _)
      | (with_reducible refine LeO.ite ?_ ?_)
      | (with_reducible refine LeO.bind ?_ (fun _ => ?_))
      | exact ih0 _ _ _ _ _ _ _ _ _ _ _
      | exact ih1 _ _ _ _ _ _ _ _
      | exact ih2 _
      | exact rdata_Txt.mono _ _
      | exact wimplelaw4_awake.mono _
      | exact LeO.none _
      | refine LeO.ite ?_ ?_
      | refine LeO.bind ?_ (fun _ => ?_)
set_option maxHeartbeats 8000000 in
set_option maxRecDepth 100000 in
theorem wimplelaw4_RdataBack.calls (k : Nat) (a0 : Int) (a1 : ByteArray) (a2_0 : ByteArray) (a2_1 : ByteArray) (a2_2 : Int) (a2_3 : Int) (a2_4 : Int) (a2_5 : Int) (a2_6 : Int) (A3 : Option Addr) (c3 : Nat) (l3 : List ByteArray) (r : Bool) (w : World) (hr3 : Kd.C Kd.string w A3 l3.length l3) (hc3 : l3.length ≤ c3) (h : wimplelaw4_RdataBack.f k a0 a1 a2_0 a2_1 a2_2 a2_3 a2_4 a2_5 a2_6 l3 = some r) :
    Calls Try.prog 9 #[.int .i64 a0, .string a1, .agg #[.string a2_0, .string a2_1, .int .i64 a2_2, .int .i64 a2_3, .int .i64 a2_4, .int .i64 a2_5, .int .i64 a2_6], .slice A3 l3.length c3] w fun e w' => e = .returned (.bool r) ∧ Below w.heap.size w w' := by
  have hu59 := Try.underlying59
  have HR3 := Aside0.mk hr3
  have HC3 := Aside0.mk hc3
  clear hr3 hc3
  have HB := Aside0.mk (Below.refl w.heap.size w)
  have H : ((wimplelaw4_awake.f k).bind fun t189 => (if t189 = true then ((rdata_A.f (Go.bits .and .i64 a0 4294967295)).bind fun bt190 => ((rdata_Addr.f bt190.1).bind fun bt192 => ((wimplelaw0_Num.f bt190.2).bind fun t194 => (if t194 = 0 then ((wimplelaw0_Num.f bt192.2).bind fun t195 => (if t195 = 0 then (if bt192.1 = (Go.bits .and .i64 a0 4294967295) then ((rdata_May.f 1 bt190.1).bind fun t196 => (wimplelaw4_RdataBack.j0 k a0 a1 l3 (!t196) a2_0 a2_1 a2_2 a2_3 a2_4 a2_5 a2_6)) else (wimplelaw4_RdataBack.j0 k a0 a1 l3 true a2_0 a2_1 a2_2 a2_3 a2_4 a2_5 a2_6)) else (wimplelaw4_RdataBack.j0 k a0 a1 l3 true a2_0 a2_1 a2_2 a2_3 a2_4 a2_5 a2_6))) else (wimplelaw4_RdataBack.j0 k a0 a1 l3 true a2_0 a2_1 a2_2 a2_3 a2_4 a2_5 a2_6))))) else (none))) = some r := h
  clear h
  replace H := Option.bind_eq_some_iff.mp H
  obtain ⟨t189, A50, H⟩ := H
  replace H : (if t189 = true then ((rdata_A.f (Go.bits .and .i64 a0 4294967295)).bind fun bt190 => ((rdata_Addr.f bt190.1).bind fun bt192 => ((wimplelaw0_Num.f bt190.2).bind fun t194 => (if t194 = 0 then ((wimplelaw0_Num.f bt192.2).bind fun t195 => (if t195 = 0 then (if bt192.1 = (Go.bits .and .i64 a0 4294967295) then ((rdata_May.f 1 bt190.1).bind fun t196 => (wimplelaw4_RdataBack.j0 k a0 a1 l3 (!t196) a2_0 a2_1 a2_2 a2_3 a2_4 a2_5 a2_6)) else (wimplelaw4_RdataBack.j0 k a0 a1 l3 true a2_0 a2_1 a2_2 a2_3 a2_4 a2_5 a2_6)) else (wimplelaw4_RdataBack.j0 k a0 a1 l3 true a2_0 a2_1 a2_2 a2_3 a2_4 a2_5 a2_6))) else (wimplelaw4_RdataBack.j0 k a0 a1 l3 true a2_0 a2_1 a2_2 a2_3 a2_4 a2_5 a2_6))))) else (none)) = some r := H
  have A5 := Aside0.mk A50
  clear A50
  by_cases c6 : t189 = true
  · subst c6
    have H1 : ((rdata_A.f (Go.bits .and .i64 a0 4294967295)).bind fun bt190 => ((rdata_Addr.f bt190.1).bind fun bt192 => ((wimplelaw0_Num.f bt190.2).bind fun t194 => (if t194 = 0 then ((wimplelaw0_Num.f bt192.2).bind fun t195 => (if t195 = 0 then (if bt192.1 = (Go.bits .and .i64 a0 4294967295) then ((rdata_May.f 1 bt190.1).bind fun t196 => (wimplelaw4_RdataBack.j0 k a0 a1 l3 (!t196) a2_0 a2_1 a2_2 a2_3 a2_4 a2_5 a2_6)) else (wimplelaw4_RdataBack.j0 k a0 a1 l3 true a2_0 a2_1 a2_2 a2_3 a2_4 a2_5 a2_6)) else (wimplelaw4_RdataBack.j0 k a0 a1 l3 true a2_0 a2_1 a2_2 a2_3 a2_4 a2_5 a2_6))) else (wimplelaw4_RdataBack.j0 k a0 a1 l3 true a2_0 a2_1 a2_2 a2_3 a2_4 a2_5 a2_6))))) = some r := by rw [if_pos rfl] at H; exact H
    clear H
    have H := H1
    clear H1
    replace H := Option.bind_eq_some_iff.mp H
    obtain ⟨⟨t190, t191⟩, A70, H⟩ := H
    replace H : ((rdata_Addr.f t190).bind fun bt192 => ((wimplelaw0_Num.f t191).bind fun t194 => (if t194 = 0 then ((wimplelaw0_Num.f bt192.2).bind fun t195 => (if t195 = 0 then (if bt192.1 = (Go.bits .and .i64 a0 4294967295) then ((rdata_May.f 1 t190).bind fun t196 => (wimplelaw4_RdataBack.j0 k a0 a1 l3 (!t196) a2_0 a2_1 a2_2 a2_3 a2_4 a2_5 a2_6)) else (wimplelaw4_RdataBack.j0 k a0 a1 l3 true a2_0 a2_1 a2_2 a2_3 a2_4 a2_5 a2_6)) else (wimplelaw4_RdataBack.j0 k a0 a1 l3 true a2_0 a2_1 a2_2 a2_3 a2_4 a2_5 a2_6))) else (wimplelaw4_RdataBack.j0 k a0 a1 l3 true a2_0 a2_1 a2_2 a2_3 a2_4 a2_5 a2_6)))) = some r := H
    have A7 := Aside0.mk A70
    clear A70
    replace H := Option.bind_eq_some_iff.mp H
    obtain ⟨⟨t192, t193⟩, A80, H⟩ := H
    replace H : ((wimplelaw0_Num.f t191).bind fun t194 => (if t194 = 0 then ((wimplelaw0_Num.f t193).bind fun t195 => (if t195 = 0 then (if t192 = (Go.bits .and .i64 a0 4294967295) then ((rdata_May.f 1 t190).bind fun t196 => (wimplelaw4_RdataBack.j0 k a0 a1 l3 (!t196) a2_0 a2_1 a2_2 a2_3 a2_4 a2_5 a2_6)) else (wimplelaw4_RdataBack.j0 k a0 a1 l3 true a2_0 a2_1 a2_2 a2_3 a2_4 a2_5 a2_6)) else (wimplelaw4_RdataBack.j0 k a0 a1 l3 true a2_0 a2_1 a2_2 a2_3 a2_4 a2_5 a2_6))) else (wimplelaw4_RdataBack.j0 k a0 a1 l3 true a2_0 a2_1 a2_2 a2_3 a2_4 a2_5 a2_6))) = some r := H
    have A8 := Aside0.mk A80
    clear A80
    have HC9 := Aside0.mk H
    clear H
    go_enter Try.func9, Try.ntmps9
    go_upto_region 5 with (first | ((with_reducible refine gate_dst (N := 6) rfl ?_); refine box_event ?hg (N := 6) ?hd (cs := #[.string a2_0, .string a2_1, .int .i64 a2_2, .int .i64 a2_3, .int .i64 a2_4, .int .i64 a2_5, .int .i64 a2_6]) (t := 59) ?hr ?_; (case hd => rfl); (case hg => rfl); (case hr => first | (go_simp; done) | (go_simp; rfl)); intro gb188 hg w10 hbox hb; have n0_ := Aside0.mk (below_step (by repeat (first | (with_reducible first | exact HB.out | apply below_alloc | apply pw_below_drewN | apply below_drew1) | exact HB.out)) hb); have n1_ := Aside0.mk (hbox); have n2_ := Aside0.mk ((by rw [hg]; exact (below_size (by repeat (first | (with_reducible first | exact HB.out | apply below_alloc | apply pw_below_drewN | apply below_drew1) | exact HB.out))) : w.heap.size ≤ gb188)); have n3_ := Aside0.mk ((by rw [hg]; exact (below_size (by repeat (first | (with_reducible first | exact HB.out | apply below_alloc | apply pw_below_drewN | apply below_drew1) | exact HB.out))) : w.heap.size ≤ gb188)); clear HB; have HB := n0_; have BK188 := n1_; have GW188 := n2_; have GE188 := n3_; clear n0_ n1_ n2_ n3_; clear hb hbox hg) | ((with_reducible refine gate_dst (N := 25) rfl ?_); (with_reducible refine gate_callee (f := 43) rfl ?_); refine goesL_ (some 25) rfl rfl Try.func43 (by kernel_rfl) rfl #[] rfl (by (try simp only [List.map_toArray, List.map_cons, List.map_nil]); first | done | rfl | (simp only [List.length_drop, List.length_take]; rfl)) ?_; (with_reducible refine (wimplelaw4_awake.calls k  true _ A5.out).mono ?_); rintro e w11 ⟨rfl, hb⟩; refine ⟨_, rfl, ?_⟩; have n0_ := Aside0.mk (blk_below (g := gb188) (o := .cells #[.string a2_0, .string a2_1, .int .i64 a2_2, .int .i64 a2_3, .int .i64 a2_4, .int .i64 a2_5, .int .i64 a2_6] 59 (0, 0)) (by (with_reducible repeat (first | refine blk_drewN ?_ _ | refine blk_drew ?_ | refine blk_alloc ?_ _)); exact BK188.out) hb); have n1_ := Aside0.mk (below_step (by repeat (first | (with_reducible first | exact HB.out | apply below_alloc | apply pw_below_drewN | apply below_drew1 | refine below_set ?_ GE188.out) | exact HB.out)) hb); clear BK188; clear HB; have BK188 := n0_; have HB := n1_; clear n0_ n1_; (try clear hb); (try clear hb2); (try clear hk); (try clear hi)) | ((with_reducible refine gate_dst (N := 30) rfl ?_); (with_reducible refine gate_callee (f := 25) rfl ?_); refine goesL_ (some 30) rfl rfl Try.func25 (by kernel_rfl) rfl #[.int .i64 (Go.bits .and .i64 a0 4294967295)] rfl (by (try simp only [List.map_toArray, List.map_cons, List.map_nil]); first | done | rfl | (simp only [List.length_drop, List.length_take]; rfl)) ?_; (with_reducible refine (rdata_A.calls (Go.bits .and .i64 a0 4294967295) t190 t191 _ A7.out).mono ?_); rintro e w12 ⟨rfl, hb⟩; refine ⟨_, rfl, ?_⟩; have n0_ := Aside0.mk (blk_below (g := gb188) (o := .cells #[.string a2_0, .string a2_1, .int .i64 a2_2, .int .i64 a2_3, .int .i64 a2_4, .int .i64 a2_5, .int .i64 a2_6] 59 (0, 0)) (by (with_reducible repeat (first | refine blk_drewN ?_ _ | refine blk_drew ?_ | refine blk_alloc ?_ _)); exact BK188.out) hb); have n1_ := Aside0.mk (below_step (by repeat (first | (with_reducible first | exact HB.out | apply below_alloc | apply pw_below_drewN | apply below_drew1 | refine below_set ?_ GE188.out) | exact HB.out)) hb); clear BK188; clear HB; have BK188 := n0_; have HB := n1_; clear n0_ n1_; (try clear hb); (try clear hb2); (try clear hk); (try clear hi)) | ((with_reducible refine gate_dst (N := 35) rfl ?_); (with_reducible refine gate_callee (f := 27) rfl ?_); refine goesL_ (some 35) rfl rfl Try.func27 (by kernel_rfl) rfl #[.string t190] rfl (by (try simp only [List.map_toArray, List.map_cons, List.map_nil]); first | done | rfl | (simp only [List.length_drop, List.length_take]; rfl)) ?_; (with_reducible refine (rdata_Addr.calls t190 t192 t193 _ A8.out).mono ?_); rintro e w13 ⟨rfl, hb⟩; refine ⟨_, rfl, ?_⟩; have n0_ := Aside0.mk (blk_below (g := gb188) (o := .cells #[.string a2_0, .string a2_1, .int .i64 a2_2, .int .i64 a2_3, .int .i64 a2_4, .int .i64 a2_5, .int .i64 a2_6] 59 (0, 0)) (by (with_reducible repeat (first | refine blk_drewN ?_ _ | refine blk_drew ?_ | refine blk_alloc ?_ _)); exact BK188.out) hb); have n1_ := Aside0.mk (below_step (by repeat (first | (with_reducible first | exact HB.out | apply below_alloc | apply pw_below_drewN | apply below_drew1 | refine below_set ?_ GE188.out) | exact HB.out)) hb); clear BK188; clear HB; have BK188 := n0_; have HB := n1_; clear n0_ n1_; (try clear hb); (try clear hb2); (try clear hk); (try clear hi)))
    (try simp only [Act.put, List.setIfInBounds_toArray, List.set_cons_zero, List.set_cons_succ])
    go_cut [56] (fun v56 wc => ∃ (kq : Nat) (x56_8 : Bool), v56 = .bool x56_8 ∧ Aside0 (wimplelaw4_RdataBack.j0 kq a0 a1 l3 x56_8 a2_0 a2_1 a2_2 a2_3 a2_4 a2_5 a2_6 = some r) ∧ Aside0 (kq ≤ k) ∧ Aside0 (wc.heap[gb188]? = some (.cells #[.string a2_0, .string a2_1, .int .i64 a2_2, .int .i64 a2_3, .int .i64 a2_4, .int .i64 a2_5, .int .i64 a2_6] 59 (0, 0))) ∧ Aside0 (Below w.heap.size w wc))
    case first =>
      have H := HC9.out
      clear HC9
      replace H := Option.bind_eq_some_iff.mp H
      obtain ⟨t194, A140, H⟩ := H
      replace H : (if t194 = 0 then ((wimplelaw0_Num.f t193).bind fun t195 => (if t195 = 0 then (if t192 = (Go.bits .and .i64 a0 4294967295) then ((rdata_May.f 1 t190).bind fun t196 => (wimplelaw4_RdataBack.j0 k a0 a1 l3 (!t196) a2_0 a2_1 a2_2 a2_3 a2_4 a2_5 a2_6)) else (wimplelaw4_RdataBack.j0 k a0 a1 l3 true a2_0 a2_1 a2_2 a2_3 a2_4 a2_5 a2_6)) else (wimplelaw4_RdataBack.j0 k a0 a1 l3 true a2_0 a2_1 a2_2 a2_3 a2_4 a2_5 a2_6))) else (wimplelaw4_RdataBack.j0 k a0 a1 l3 true a2_0 a2_1 a2_2 a2_3 a2_4 a2_5 a2_6)) = some r := H
      have A14 := Aside0.mk A140
      clear A140
      by_cases c15 : t194 = 0
      · rw [if_pos c15] at H
        have c15b0 : (t194 == 0) = true := beq_iff_eq.mpr c15
        have c15b1 : (t194 != 0) = false := bne_eq_false_iff_eq.mpr c15
        clear c15
        (first | rw [c15b0] | (simp only [i64_w, i32_w]; rw [c15b0]) | skip)
        replace H := Option.bind_eq_some_iff.mp H
        obtain ⟨t195, A160, H⟩ := H
        replace H : (if t195 = 0 then (if t192 = (Go.bits .and .i64 a0 4294967295) then ((rdata_May.f 1 t190).bind fun t196 => (wimplelaw4_RdataBack.j0 k a0 a1 l3 (!t196) a2_0 a2_1 a2_2 a2_3 a2_4 a2_5 a2_6)) else (wimplelaw4_RdataBack.j0 k a0 a1 l3 true a2_0 a2_1 a2_2 a2_3 a2_4 a2_5 a2_6)) else (wimplelaw4_RdataBack.j0 k a0 a1 l3 true a2_0 a2_1 a2_2 a2_3 a2_4 a2_5 a2_6)) = some r := H
        have A16 := Aside0.mk A160
        clear A160
        by_cases c17 : t195 = 0
        · rw [if_pos c17] at H
          have c17b0 : (t195 == 0) = true := beq_iff_eq.mpr c17
          have c17b1 : (t195 != 0) = false := bne_eq_false_iff_eq.mpr c17
          clear c17
          by_cases c18 : t192 = (Go.bits .and .i64 a0 4294967295)
          · rw [if_pos c18] at H
            have c18b0 : (t192 == (Go.bits .and .i64 a0 4294967295)) = true := beq_iff_eq.mpr c18
            have c18b1 : (t192 != (Go.bits .and .i64 a0 4294967295)) = false := bne_eq_false_iff_eq.mpr c18
            clear c18
            replace H := Option.bind_eq_some_iff.mp H
            obtain ⟨t196, A190, H⟩ := H
            replace H : (wimplelaw4_RdataBack.j0 k a0 a1 l3 (!t196) a2_0 a2_1 a2_2 a2_3 a2_4 a2_5 a2_6) = some r := H
            have A19 := Aside0.mk A190
            clear A190
            have H' := Aside0.mk H
            clear H
            go_wp2_with (first | ((with_reducible refine gate_dst (N := 39) rfl ?_); (with_reducible refine gate_callee (f := 20) rfl ?_); refine goesL_ (some 39) rfl rfl Try.func20 (by kernel_rfl) rfl #[.int .i64 t191] rfl (by (try simp only [List.map_toArray, List.map_cons, List.map_nil]); first | done | rfl | (simp only [List.length_drop, List.length_take]; rfl)) ?_; (with_reducible refine (wimplelaw0_Num.calls t191 t194 _ A14.out).mono ?_); rintro e w' ⟨rfl, ⟨nd, rfl⟩⟩; refine ⟨_, rfl, ?_⟩) | (go_at_call 20; (with_reducible refine (wimplelaw0_Num.calls t193 t195 _ A16.out).mono ?_); rintro e w' ⟨rfl, ⟨nd, rfl⟩⟩) | (go_at_call 33; (with_reducible refine (rdata_May.calls 1 t190 t196 _ A19.out).mono ?_); rintro e w20 ⟨rfl, hb⟩; have n0_ := Aside0.mk (blk_below (g := gb188) (o := .cells #[.string a2_0, .string a2_1, .int .i64 a2_2, .int .i64 a2_3, .int .i64 a2_4, .int .i64 a2_5, .int .i64 a2_6] 59 (0, 0)) (by (with_reducible repeat (first | refine blk_drewN ?_ _ | refine blk_drew ?_ | refine blk_alloc ?_ _)); exact BK188.out) hb); have n1_ := Aside0.mk (below_step (by repeat (first | (with_reducible first | exact HB.out | apply below_alloc | apply pw_below_drewN | apply below_drew1 | refine below_set ?_ GE188.out) | exact HB.out)) hb); clear BK188; clear HB; have BK188 := n0_; have HB := n1_; clear n0_ n1_; (try clear hb); (try clear hb2); (try clear hk); (try clear hi)))
            go_meet
            case rel => exact ⟨_, (!t196), (by first | rfl | (simp; done) | (simp [*]; done)), H', ⟨by first | omega | exact Nat.le_refl _⟩, ⟨by (with_reducible repeat (first | refine blk_drewN ?_ _ | refine blk_drew ?_ | refine blk_alloc ?_ _)); exact BK188.out⟩, ⟨by repeat (first | (with_reducible first | exact HB.out | apply below_alloc | apply pw_below_drewN | apply below_drew1 | refine below_set ?_ GE188.out) | exact HB.out)⟩⟩
          · rw [if_neg c18] at H
            have c18b0 : (t192 == (Go.bits .and .i64 a0 4294967295)) = false := beq_eq_false_iff_ne.mpr c18
            have c18b1 : (t192 != (Go.bits .and .i64 a0 4294967295)) = true := bne_iff_ne.mpr c18
            have H' := Aside0.mk H
            clear H
            go_wp2_with (first | ((with_reducible refine gate_dst (N := 39) rfl ?_); (with_reducible refine gate_callee (f := 20) rfl ?_); refine goesL_ (some 39) rfl rfl Try.func20 (by kernel_rfl) rfl #[.int .i64 t191] rfl (by (try simp only [List.map_toArray, List.map_cons, List.map_nil]); first | done | rfl | (simp only [List.length_drop, List.length_take]; rfl)) ?_; (with_reducible refine (wimplelaw0_Num.calls t191 t194 _ A14.out).mono ?_); rintro e w' ⟨rfl, ⟨nd, rfl⟩⟩; refine ⟨_, rfl, ?_⟩) | (go_at_call 20; (with_reducible refine (wimplelaw0_Num.calls t193 t195 _ A16.out).mono ?_); rintro e w' ⟨rfl, ⟨nd, rfl⟩⟩))
            go_meet
            case rel => exact ⟨_, (true), (by first | rfl | (simp; done) | (simp [*]; done)), H', ⟨by first | omega | exact Nat.le_refl _⟩, ⟨by (with_reducible repeat (first | refine blk_drewN ?_ _ | refine blk_drew ?_ | refine blk_alloc ?_ _)); exact BK188.out⟩, ⟨by repeat (first | (with_reducible first | exact HB.out | apply below_alloc | apply pw_below_drewN | apply below_drew1 | refine below_set ?_ GE188.out) | exact HB.out)⟩⟩
        · rw [if_neg c17] at H
          have c17b0 : (t195 == 0) = false := beq_eq_false_iff_ne.mpr c17
          have c17b1 : (t195 != 0) = true := bne_iff_ne.mpr c17
          have H' := Aside0.mk H
          clear H
          go_wp2_with (first | ((with_reducible refine gate_dst (N := 39) rfl ?_); (with_reducible refine gate_callee (f := 20) rfl ?_); refine goesL_ (some 39) rfl rfl Try.func20 (by kernel_rfl) rfl #[.int .i64 t191] rfl (by (try simp only [List.map_toArray, List.map_cons, List.map_nil]); first | done | rfl | (simp only [List.length_drop, List.length_take]; rfl)) ?_; (with_reducible refine (wimplelaw0_Num.calls t191 t194 _ A14.out).mono ?_); rintro e w' ⟨rfl, ⟨nd, rfl⟩⟩; refine ⟨_, rfl, ?_⟩) | (go_at_call 20; (with_reducible refine (wimplelaw0_Num.calls t193 t195 _ A16.out).mono ?_); rintro e w' ⟨rfl, ⟨nd, rfl⟩⟩))
          go_meet
          case rel => exact ⟨_, (true), (by first | rfl | (simp; done) | (simp [*]; done)), H', ⟨by first | omega | exact Nat.le_refl _⟩, ⟨by (with_reducible repeat (first | refine blk_drewN ?_ _ | refine blk_drew ?_ | refine blk_alloc ?_ _)); exact BK188.out⟩, ⟨by repeat (first | (with_reducible first | exact HB.out | apply below_alloc | apply pw_below_drewN | apply below_drew1 | refine below_set ?_ GE188.out) | exact HB.out)⟩⟩
      · rw [if_neg c15] at H
        have c15b0 : (t194 == 0) = false := beq_eq_false_iff_ne.mpr c15
        have c15b1 : (t194 != 0) = true := bne_iff_ne.mpr c15
        (first | rw [c15b0] | (simp only [i64_w, i32_w]; rw [c15b0]) | skip)
        have H' := Aside0.mk H
        clear H
        go_wp2_with (first | ((with_reducible refine gate_dst (N := 39) rfl ?_); (with_reducible refine gate_callee (f := 20) rfl ?_); refine goesL_ (some 39) rfl rfl Try.func20 (by kernel_rfl) rfl #[.int .i64 t191] rfl (by (try simp only [List.map_toArray, List.map_cons, List.map_nil]); first | done | rfl | (simp only [List.length_drop, List.length_take]; rfl)) ?_; (with_reducible refine (wimplelaw0_Num.calls t191 t194 _ A14.out).mono ?_); rintro e w' ⟨rfl, ⟨nd, rfl⟩⟩; refine ⟨_, rfl, ?_⟩))
        go_meet
        case rel => exact ⟨_, (true), (by first | rfl | (simp; done) | (simp [*]; done)), H', ⟨by first | omega | exact Nat.le_refl _⟩, ⟨by (with_reducible repeat (first | refine blk_drewN ?_ _ | refine blk_drew ?_ | refine blk_alloc ?_ _)); exact BK188.out⟩, ⟨by repeat (first | (with_reducible first | exact HB.out | apply below_alloc | apply pw_below_drewN | apply below_drew1 | refine below_set ?_ GE188.out) | exact HB.out)⟩⟩
    case rest =>
      clear HC9
      try clear c1
      try clear c2
      try clear p2
      try clear c3
      try clear c4
      try clear c6
      try clear c9
      try clear c15
      try clear c15b0
      try clear c15b1
      try clear c17
      try clear c17b0
      try clear c17b1
      try clear c18
      try clear c18b0
      try clear c18b1
      try clear c20
      obtain ⟨kq, x56_8, rfl, HA, HJ8, BK188, HB⟩ := hcut
      cases kq with
      | zero => exact absurd HA.out (by simp [wimplelaw4_RdataBack.j0])
      | succ kj8 =>
        have H := HA.out
        clear HA
        simp only [wimplelaw4_RdataBack.j0] at H
        by_cases c21 : x56_8 = true
        · subst c21
          have H1 : (none) = some r := by rw [if_pos rfl] at H; exact H
          clear H
          have H := H1
          clear H1
          exact absurd H (by simp)
        · replace c21 := Bool.eq_false_iff.mpr c21
          subst c21
          have H1 : ((rdata_Mx.f (Go.bits .and .i64 a0 65535) a1).bind fun bt197 => ((wimplelaw0_Num.f bt197.2).bind fun t199 => ((wimpleref1_May.f a1).bind fun t200 => (if ((t199 == 0) != t200) = true then (none) else ((wimplelaw0_Num.f bt197.2).bind fun t201 => (if t201 = 0 then ((rdata_Host.f 15 bt197.1).bind fun bt202 => ((rdata_Host.f 2 a1).bind fun bt204 => ((wimplelaw0_Num.f bt202.2).bind fun t206 => (if t206 = 0 then (if bt202.1.toList = a1.toList then ((wimplelaw0_Num.f bt204.2).bind fun t207 => (if t207 = 0 then (if bt204.1.toList = a1.toList then ((rdata_May.f 15 bt197.1).bind fun t208 => (if t208 = true then ((rdata_May.f 5 a1).bind fun t209 => (if t209 = true then (wimplelaw4_RdataBack.j1 kj8 l3 a2_0 a2_1 a2_2 a2_3 a2_4 a2_5 a2_6) else (none))) else (none))) else (none)) else (none))) else (none)) else (none))))) else (wimplelaw4_RdataBack.j1 kj8 l3 a2_0 a2_1 a2_2 a2_3 a2_4 a2_5 a2_6))))))) = some r := by rw [if_neg (show ¬ (false = true) by decide)] at H; exact H
          clear H
          have H := H1
          clear H1
          replace H := Option.bind_eq_some_iff.mp H
          obtain ⟨⟨t197, t198⟩, A220, H⟩ := H
          replace H : ((wimplelaw0_Num.f t198).bind fun t199 => ((wimpleref1_May.f a1).bind fun t200 => (if ((t199 == 0) != t200) = true then (none) else ((wimplelaw0_Num.f t198).bind fun t201 => (if t201 = 0 then ((rdata_Host.f 15 t197).bind fun bt202 => ((rdata_Host.f 2 a1).bind fun bt204 => ((wimplelaw0_Num.f bt202.2).bind fun t206 => (if t206 = 0 then (if bt202.1.toList = a1.toList then ((wimplelaw0_Num.f bt204.2).bind fun t207 => (if t207 = 0 then (if bt204.1.toList = a1.toList then ((rdata_May.f 15 t197).bind fun t208 => (if t208 = true then ((rdata_May.f 5 a1).bind fun t209 => (if t209 = true then (wimplelaw4_RdataBack.j1 kj8 l3 a2_0 a2_1 a2_2 a2_3 a2_4 a2_5 a2_6) else (none))) else (none))) else (none)) else (none))) else (none)) else (none))))) else (wimplelaw4_RdataBack.j1 kj8 l3 a2_0 a2_1 a2_2 a2_3 a2_4 a2_5 a2_6)))))) = some r := H
          have A22 := Aside0.mk A220
          clear A220
          replace H := Option.bind_eq_some_iff.mp H
          obtain ⟨t199, A230, H⟩ := H
          replace H : ((wimpleref1_May.f a1).bind fun t200 => (if ((t199 == 0) != t200) = true then (none) else ((wimplelaw0_Num.f t198).bind fun t201 => (if t201 = 0 then ((rdata_Host.f 15 t197).bind fun bt202 => ((rdata_Host.f 2 a1).bind fun bt204 => ((wimplelaw0_Num.f bt202.2).bind fun t206 => (if t206 = 0 then (if bt202.1.toList = a1.toList then ((wimplelaw0_Num.f bt204.2).bind fun t207 => (if t207 = 0 then (if bt204.1.toList = a1.toList then ((rdata_May.f 15 t197).bind fun t208 => (if t208 = true then ((rdata_May.f 5 a1).bind fun t209 => (if t209 = true then (wimplelaw4_RdataBack.j1 kj8 l3 a2_0 a2_1 a2_2 a2_3 a2_4 a2_5 a2_6) else (none))) else (none))) else (none)) else (none))) else (none)) else (none))))) else (wimplelaw4_RdataBack.j1 kj8 l3 a2_0 a2_1 a2_2 a2_3 a2_4 a2_5 a2_6))))) = some r := H
          have A23 := Aside0.mk A230
          clear A230
          replace H := Option.bind_eq_some_iff.mp H
          obtain ⟨t200, A240, H⟩ := H
          replace H : (if ((t199 == 0) != t200) = true then (none) else ((wimplelaw0_Num.f t198).bind fun t201 => (if t201 = 0 then ((rdata_Host.f 15 t197).bind fun bt202 => ((rdata_Host.f 2 a1).bind fun bt204 => ((wimplelaw0_Num.f bt202.2).bind fun t206 => (if t206 = 0 then (if bt202.1.toList = a1.toList then ((wimplelaw0_Num.f bt204.2).bind fun t207 => (if t207 = 0 then (if bt204.1.toList = a1.toList then ((rdata_May.f 15 t197).bind fun t208 => (if t208 = true then ((rdata_May.f 5 a1).bind fun t209 => (if t209 = true then (wimplelaw4_RdataBack.j1 kj8 l3 a2_0 a2_1 a2_2 a2_3 a2_4 a2_5 a2_6) else (none))) else (none))) else (none)) else (none))) else (none)) else (none))))) else (wimplelaw4_RdataBack.j1 kj8 l3 a2_0 a2_1 a2_2 a2_3 a2_4 a2_5 a2_6)))) = some r := H
          have A24 := Aside0.mk A240
          clear A240
          by_cases c25 : ((t199 == 0) != t200) = true
          · rw [if_pos c25] at H
            exact absurd H (by simp)
          · rw [if_neg c25] at H
            have c25b0 : ((t199 == 0) != t200) = false := by simpa using c25
            (try (have c25b1 : decide ((t199 == 0) = t200) = true := by simpa using c25))
            (try (have c25b2 : ((t199 == 0) == t200) = true := by simpa using c25))
            clear c25
            replace H := Option.bind_eq_some_iff.mp H
            obtain ⟨t201, A260, H⟩ := H
            replace H : (if t201 = 0 then ((rdata_Host.f 15 t197).bind fun bt202 => ((rdata_Host.f 2 a1).bind fun bt204 => ((wimplelaw0_Num.f bt202.2).bind fun t206 => (if t206 = 0 then (if bt202.1.toList = a1.toList then ((wimplelaw0_Num.f bt204.2).bind fun t207 => (if t207 = 0 then (if bt204.1.toList = a1.toList then ((rdata_May.f 15 t197).bind fun t208 => (if t208 = true then ((rdata_May.f 5 a1).bind fun t209 => (if t209 = true then (wimplelaw4_RdataBack.j1 kj8 l3 a2_0 a2_1 a2_2 a2_3 a2_4 a2_5 a2_6) else (none))) else (none))) else (none)) else (none))) else (none)) else (none))))) else (wimplelaw4_RdataBack.j1 kj8 l3 a2_0 a2_1 a2_2 a2_3 a2_4 a2_5 a2_6)) = some r := H
            have A26 := Aside0.mk A260
            clear A260
            have HC27 := Aside0.mk H
            clear H
            go_upto_if 72 with (first | ((with_reducible refine gate_dst (N := 61) rfl ?_); (with_reducible refine gate_callee (f := 29) rfl ?_); refine goesL_ (some 61) rfl rfl Try.func29 (by kernel_rfl) rfl #[.int .i64 (Go.bits .and .i64 a0 65535), .string a1] rfl (by (try simp only [List.map_toArray, List.map_cons, List.map_nil]); first | done | rfl | (simp only [List.length_drop, List.length_take]; rfl)) ?_; (with_reducible refine (rdata_Mx.calls (Go.bits .and .i64 a0 65535) a1 t197 t198 _ A22.out).mono ?_); rintro e w28 ⟨rfl, hb⟩; refine ⟨_, rfl, ?_⟩; have n0_ := Aside0.mk (blk_below (g := gb188) (o := .cells #[.string a2_0, .string a2_1, .int .i64 a2_2, .int .i64 a2_3, .int .i64 a2_4, .int .i64 a2_5, .int .i64 a2_6] 59 (0, 0)) (by (with_reducible repeat (first | refine blk_drewN ?_ _ | refine blk_drew ?_ | refine blk_alloc ?_ _)); exact BK188.out) hb); have n1_ := Aside0.mk (below_step (by repeat (first | (with_reducible first | exact HB.out | apply below_alloc | apply pw_below_drewN | apply below_drew1 | refine below_set ?_ GE188.out) | exact HB.out)) hb); clear BK188; clear HB; have BK188 := n0_; have HB := n1_; clear n0_ n1_; (try clear hb); (try clear hb2); (try clear hk); (try clear hi)) | ((with_reducible refine gate_dst (N := 65) rfl ?_); (with_reducible refine gate_callee (f := 20) rfl ?_); refine goesL_ (some 65) rfl rfl Try.func20 (by kernel_rfl) rfl #[.int .i64 t198] rfl (by (try simp only [List.map_toArray, List.map_cons, List.map_nil]); first | done | rfl | (simp only [List.length_drop, List.length_take]; rfl)) ?_; (with_reducible refine (wimplelaw0_Num.calls t198 t199 _ A23.out).mono ?_); rintro e w' ⟨rfl, ⟨nd, rfl⟩⟩; refine ⟨_, rfl, ?_⟩) | ((with_reducible refine gate_dst (N := 68) rfl ?_); (with_reducible refine gate_callee (f := 44) rfl ?_); refine goesL_ (some 68) rfl rfl Try.func44 (by kernel_rfl) rfl #[.string a1] rfl (by (try simp only [List.map_toArray, List.map_cons, List.map_nil]); first | done | rfl | (simp only [List.length_drop, List.length_take]; rfl)) ?_; (with_reducible refine (wimpleref1_May.calls a1 t200 _ A24.out).mono ?_); rintro e w29 ⟨rfl, hb⟩; refine ⟨_, rfl, ?_⟩; have n0_ := Aside0.mk (blk_below (g := gb188) (o := .cells #[.string a2_0, .string a2_1, .int .i64 a2_2, .int .i64 a2_3, .int .i64 a2_4, .int .i64 a2_5, .int .i64 a2_6] 59 (0, 0)) (by (with_reducible repeat (first | refine blk_drewN ?_ _ | refine blk_drew ?_ | refine blk_alloc ?_ _)); exact BK188.out) hb); have n1_ := Aside0.mk (below_step (by repeat (first | (with_reducible first | exact HB.out | apply below_alloc | apply pw_below_drewN | apply below_drew1 | refine below_set ?_ GE188.out) | exact HB.out)) hb); clear BK188; clear HB; have BK188 := n0_; have HB := n1_; clear n0_ n1_; (try clear hb); (try clear hb2); (try clear hk); (try clear hi)) | ((with_reducible refine gate_dst (N := 71) rfl ?_); (with_reducible refine gate_callee (f := 20) rfl ?_); refine goesL_ (some 71) rfl rfl Try.func20 (by kernel_rfl) rfl #[.int .i64 t198] rfl (by (try simp only [List.map_toArray, List.map_cons, List.map_nil]); first | done | rfl | (simp only [List.length_drop, List.length_take]; rfl)) ?_; (with_reducible refine (wimplelaw0_Num.calls t198 t201 _ A26.out).mono ?_); rintro e w' ⟨rfl, ⟨nd, rfl⟩⟩; refine ⟨_, rfl, ?_⟩))
            (try simp only [Act.put, List.setIfInBounds_toArray, List.set_cons_zero, List.set_cons_succ])
            go_cut [] (fun wc => ∃ (kq : Nat), Aside0 (wimplelaw4_RdataBack.j1 kq l3 a2_0 a2_1 a2_2 a2_3 a2_4 a2_5 a2_6 = some r) ∧ Aside0 (kq ≤ kj8) ∧ Aside0 (wc.heap[gb188]? = some (.cells #[.string a2_0, .string a2_1, .int .i64 a2_2, .int .i64 a2_3, .int .i64 a2_4, .int .i64 a2_5, .int .i64 a2_6] 59 (0, 0))) ∧ Aside0 (Below w.heap.size w wc))
            case first =>
              have H := HC27.out
              clear HC27
              by_cases c30 : t201 = 0
              · rw [if_pos c30] at H
                have c30b0 : (t201 == 0) = true := beq_iff_eq.mpr c30
                have c30b1 : (t201 != 0) = false := bne_eq_false_iff_eq.mpr c30
                clear c30
                (first | rw [c30b0] | (simp only [i64_w, i32_w]; rw [c30b0]) | skip)
                replace H := Option.bind_eq_some_iff.mp H
                obtain ⟨⟨t202, t203⟩, A310, H⟩ := H
                replace H : ((rdata_Host.f 2 a1).bind fun bt204 => ((wimplelaw0_Num.f t203).bind fun t206 => (if t206 = 0 then (if t202.toList = a1.toList then ((wimplelaw0_Num.f bt204.2).bind fun t207 => (if t207 = 0 then (if bt204.1.toList = a1.toList then ((rdata_May.f 15 t197).bind fun t208 => (if t208 = true then ((rdata_May.f 5 a1).bind fun t209 => (if t209 = true then (wimplelaw4_RdataBack.j1 kj8 l3 a2_0 a2_1 a2_2 a2_3 a2_4 a2_5 a2_6) else (none))) else (none))) else (none)) else (none))) else (none)) else (none)))) = some r := H
                have A31 := Aside0.mk A310
                clear A310
                replace H := Option.bind_eq_some_iff.mp H
                obtain ⟨⟨t204, t205⟩, A320, H⟩ := H
                replace H : ((wimplelaw0_Num.f t203).bind fun t206 => (if t206 = 0 then (if t202.toList = a1.toList then ((wimplelaw0_Num.f t205).bind fun t207 => (if t207 = 0 then (if t204.toList = a1.toList then ((rdata_May.f 15 t197).bind fun t208 => (if t208 = true then ((rdata_May.f 5 a1).bind fun t209 => (if t209 = true then (wimplelaw4_RdataBack.j1 kj8 l3 a2_0 a2_1 a2_2 a2_3 a2_4 a2_5 a2_6) else (none))) else (none))) else (none)) else (none))) else (none)) else (none))) = some r := H
                have A32 := Aside0.mk A320
                clear A320
                replace H := Option.bind_eq_some_iff.mp H
                obtain ⟨t206, A330, H⟩ := H
                replace H : (if t206 = 0 then (if t202.toList = a1.toList then ((wimplelaw0_Num.f t205).bind fun t207 => (if t207 = 0 then (if t204.toList = a1.toList then ((rdata_May.f 15 t197).bind fun t208 => (if t208 = true then ((rdata_May.f 5 a1).bind fun t209 => (if t209 = true then (wimplelaw4_RdataBack.j1 kj8 l3 a2_0 a2_1 a2_2 a2_3 a2_4 a2_5 a2_6) else (none))) else (none))) else (none)) else (none))) else (none)) else (none)) = some r := H
                have A33 := Aside0.mk A330
                clear A330
                by_cases c34 : t206 = 0
                · rw [if_pos c34] at H
                  have c34b0 : (t206 == 0) = true := beq_iff_eq.mpr c34
                  have c34b1 : (t206 != 0) = false := bne_eq_false_iff_eq.mpr c34
                  clear c34
                  by_cases c35 : t202.toList = a1.toList
                  · rw [if_pos c35] at H
                    have c35b0 : (t202.toList == a1.toList) = true := beq_iff_eq.mpr c35
                    have c35b1 : (t202.toList != a1.toList) = false := bne_eq_false_iff_eq.mpr c35
                    clear c35
                    replace H := Option.bind_eq_some_iff.mp H
                    obtain ⟨t207, A360, H⟩ := H
                    replace H : (if t207 = 0 then (if t204.toList = a1.toList then ((rdata_May.f 15 t197).bind fun t208 => (if t208 = true then ((rdata_May.f 5 a1).bind fun t209 => (if t209 = true then (wimplelaw4_RdataBack.j1 kj8 l3 a2_0 a2_1 a2_2 a2_3 a2_4 a2_5 a2_6) else (none))) else (none))) else (none)) else (none)) = some r := H
                    have A36 := Aside0.mk A360
                    clear A360
                    by_cases c37 : t207 = 0
                    · rw [if_pos c37] at H
                      have c37b0 : (t207 == 0) = true := beq_iff_eq.mpr c37
                      have c37b1 : (t207 != 0) = false := bne_eq_false_iff_eq.mpr c37
                      clear c37
                      by_cases c38 : t204.toList = a1.toList
                      · rw [if_pos c38] at H
                        have c38b0 : (t204.toList == a1.toList) = true := beq_iff_eq.mpr c38
                        have c38b1 : (t204.toList != a1.toList) = false := bne_eq_false_iff_eq.mpr c38
                        clear c38
                        replace H := Option.bind_eq_some_iff.mp H
                        obtain ⟨t208, A390, H⟩ := H
                        replace H : (if t208 = true then ((rdata_May.f 5 a1).bind fun t209 => (if t209 = true then (wimplelaw4_RdataBack.j1 kj8 l3 a2_0 a2_1 a2_2 a2_3 a2_4 a2_5 a2_6) else (none))) else (none)) = some r := H
                        have A39 := Aside0.mk A390
                        clear A390
                        by_cases c40 : t208 = true
                        · subst c40
                          have H1 : ((rdata_May.f 5 a1).bind fun t209 => (if t209 = true then (wimplelaw4_RdataBack.j1 kj8 l3 a2_0 a2_1 a2_2 a2_3 a2_4 a2_5 a2_6) else (none))) = some r := by rw [if_pos rfl] at H; exact H
                          clear H
                          have H := H1
                          clear H1
                          replace H := Option.bind_eq_some_iff.mp H
                          obtain ⟨t209, A410, H⟩ := H
                          replace H : (if t209 = true then (wimplelaw4_RdataBack.j1 kj8 l3 a2_0 a2_1 a2_2 a2_3 a2_4 a2_5 a2_6) else (none)) = some r := H
                          have A41 := Aside0.mk A410
                          clear A410
                          by_cases c42 : t209 = true
                          · subst c42
                            have H1 : (wimplelaw4_RdataBack.j1 kj8 l3 a2_0 a2_1 a2_2 a2_3 a2_4 a2_5 a2_6) = some r := by rw [if_pos rfl] at H; exact H
                            clear H
                            have H := H1
                            clear H1
                            have H' := Aside0.mk H
                            clear H
                            go_wp2_with (first | ((with_reducible refine gate_dst (N := 75) rfl ?_); (with_reducible refine gate_callee (f := 31) rfl ?_); refine goesL_ (some 75) rfl rfl Try.func31 (by kernel_rfl) rfl #[.int .i64 15, .string t197] rfl (by (try simp only [List.map_toArray, List.map_cons, List.map_nil]); first | done | rfl | (simp only [List.length_drop, List.length_take]; rfl)) ?_; (with_reducible refine (rdata_Host.calls 15 t197 t202 t203 _ A31.out).mono ?_); rintro e w43 ⟨rfl, hb⟩; refine ⟨_, rfl, ?_⟩; have n0_ := Aside0.mk (blk_below (g := gb188) (o := .cells #[.string a2_0, .string a2_1, .int .i64 a2_2, .int .i64 a2_3, .int .i64 a2_4, .int .i64 a2_5, .int .i64 a2_6] 59 (0, 0)) (by (with_reducible repeat (first | refine blk_drewN ?_ _ | refine blk_drew ?_ | refine blk_alloc ?_ _)); exact BK188.out) hb); have n1_ := Aside0.mk (below_step (by repeat (first | (with_reducible first | exact HB.out | apply below_alloc | apply pw_below_drewN | apply below_drew1 | refine below_set ?_ GE188.out) | exact HB.out)) hb); clear BK188; clear HB; have BK188 := n0_; have HB := n1_; clear n0_ n1_; (try clear hb); (try clear hb2); (try clear hk); (try clear hi)) | ((with_reducible refine gate_dst (N := 80) rfl ?_); (with_reducible refine gate_callee (f := 31) rfl ?_); refine goesL_ (some 80) rfl rfl Try.func31 (by kernel_rfl) rfl #[.int .i64 2, .string a1] rfl (by (try simp only [List.map_toArray, List.map_cons, List.map_nil]); first | done | rfl | (simp only [List.length_drop, List.length_take]; rfl)) ?_; (with_reducible refine (rdata_Host.calls 2 a1 t204 t205 _ A32.out).mono ?_); rintro e w44 ⟨rfl, hb⟩; refine ⟨_, rfl, ?_⟩; have n0_ := Aside0.mk (blk_below (g := gb188) (o := .cells #[.string a2_0, .string a2_1, .int .i64 a2_2, .int .i64 a2_3, .int .i64 a2_4, .int .i64 a2_5, .int .i64 a2_6] 59 (0, 0)) (by (with_reducible repeat (first | refine blk_drewN ?_ _ | refine blk_drew ?_ | refine blk_alloc ?_ _)); exact BK188.out) hb); have n1_ := Aside0.mk (below_step (by repeat (first | (with_reducible first | exact HB.out | apply below_alloc | apply pw_below_drewN | apply below_drew1 | refine below_set ?_ GE188.out) | exact HB.out)) hb); clear BK188; clear HB; have BK188 := n0_; have HB := n1_; clear n0_ n1_; (try clear hb); (try clear hb2); (try clear hk); (try clear hi)) | ((with_reducible refine gate_dst (N := 84) rfl ?_); (with_reducible refine gate_callee (f := 20) rfl ?_); refine goesL_ (some 84) rfl rfl Try.func20 (by kernel_rfl) rfl #[.int .i64 t203] rfl (by (try simp only [List.map_toArray, List.map_cons, List.map_nil]); first | done | rfl | (simp only [List.length_drop, List.length_take]; rfl)) ?_; (with_reducible refine (wimplelaw0_Num.calls t203 t206 _ A33.out).mono ?_); rintro e w' ⟨rfl, ⟨nd, rfl⟩⟩; refine ⟨_, rfl, ?_⟩) | (go_at_call 20; (with_reducible refine (wimplelaw0_Num.calls t205 t207 _ A36.out).mono ?_); rintro e w' ⟨rfl, ⟨nd, rfl⟩⟩) | (go_at_call 33; (with_reducible refine (rdata_May.calls 15 t197 true _ A39.out).mono ?_); rintro e w45 ⟨rfl, hb⟩; have n0_ := Aside0.mk (blk_below (g := gb188) (o := .cells #[.string a2_0, .string a2_1, .int .i64 a2_2, .int .i64 a2_3, .int .i64 a2_4, .int .i64 a2_5, .int .i64 a2_6] 59 (0, 0)) (by (with_reducible repeat (first | refine blk_drewN ?_ _ | refine blk_drew ?_ | refine blk_alloc ?_ _)); exact BK188.out) hb); have n1_ := Aside0.mk (below_step (by repeat (first | (with_reducible first | exact HB.out | apply below_alloc | apply pw_below_drewN | apply below_drew1 | refine below_set ?_ GE188.out) | exact HB.out)) hb); clear BK188; clear HB; have BK188 := n0_; have HB := n1_; clear n0_ n1_; (try clear hb); (try clear hb2); (try clear hk); (try clear hi)) | (go_at_call 33; (with_reducible refine (rdata_May.calls 5 a1 true _ A41.out).mono ?_); rintro e w46 ⟨rfl, hb⟩; have n0_ := Aside0.mk (blk_below (g := gb188) (o := .cells #[.string a2_0, .string a2_1, .int .i64 a2_2, .int .i64 a2_3, .int .i64 a2_4, .int .i64 a2_5, .int .i64 a2_6] 59 (0, 0)) (by (with_reducible repeat (first | refine blk_drewN ?_ _ | refine blk_drew ?_ | refine blk_alloc ?_ _)); exact BK188.out) hb); have n1_ := Aside0.mk (below_step (by repeat (first | (with_reducible first | exact HB.out | apply below_alloc | apply pw_below_drewN | apply below_drew1 | refine below_set ?_ GE188.out) | exact HB.out)) hb); clear BK188; clear HB; have BK188 := n0_; have HB := n1_; clear n0_ n1_; (try clear hb); (try clear hb2); (try clear hk); (try clear hi)))
                            go_meet
                            case rel => exact ⟨_, H', ⟨by have := HJ8.out; first | omega | exact Nat.le_refl _⟩, ⟨by (with_reducible repeat (first | refine blk_drewN ?_ _ | refine blk_drew ?_ | refine blk_alloc ?_ _)); exact BK188.out⟩, ⟨by repeat (first | (with_reducible first | exact HB.out | apply below_alloc | apply pw_below_drewN | apply below_drew1 | refine below_set ?_ GE188.out) | exact HB.out)⟩⟩
                          · replace c42 := Bool.eq_false_iff.mpr c42
                            subst c42
                            have H1 : (none) = some r := by rw [if_neg (show ¬ (false = true) by decide)] at H; exact H
                            clear H
                            have H := H1
                            clear H1
                            exact absurd H (by simp)
                        · replace c40 := Bool.eq_false_iff.mpr c40
                          subst c40
                          have H1 : (none) = some r := by rw [if_neg (show ¬ (false = true) by decide)] at H; exact H
                          clear H
                          have H := H1
                          clear H1
                          exact absurd H (by simp)
                      · rw [if_neg c38] at H
                        exact absurd H (by simp)
                    · rw [if_neg c37] at H
                      exact absurd H (by simp)
                  · rw [if_neg c35] at H
                    exact absurd H (by simp)
                · rw [if_neg c34] at H
                  exact absurd H (by simp)
              · rw [if_neg c30] at H
                have c30b0 : (t201 == 0) = false := beq_eq_false_iff_ne.mpr c30
                have c30b1 : (t201 != 0) = true := bne_iff_ne.mpr c30
                (first | rw [c30b0] | (simp only [i64_w, i32_w]; rw [c30b0]) | skip)
                have H' := Aside0.mk H
                clear H
                go_wp2
                go_meet
                case rel => exact ⟨_, H', ⟨by have := HJ8.out; first | omega | exact Nat.le_refl _⟩, ⟨by (with_reducible repeat (first | refine blk_drewN ?_ _ | refine blk_drew ?_ | refine blk_alloc ?_ _)); exact BK188.out⟩, ⟨by repeat (first | (with_reducible first | exact HB.out | apply below_alloc | apply pw_below_drewN | apply below_drew1 | refine below_set ?_ GE188.out) | exact HB.out)⟩⟩
            case rest =>
              clear HC27
              try clear c1
              try clear c2
              try clear p2
              try clear c3
              try clear c4
              try clear c6
              try clear c9
              try clear c15
              try clear c15b0
              try clear c15b1
              try clear c17
              try clear c17b0
              try clear c17b1
              try clear c18
              try clear c18b0
              try clear c18b1
              try clear c20
              try clear c21
              try clear c25
              try clear c25b0
              try clear c25b1
              try clear c25b2
              try clear c27
              try clear c29
              try clear c30
              try clear c30b0
              try clear c30b1
              try clear c31
              try clear c34
              try clear c34b0
              try clear c34b1
              try clear c35
              try clear c35b0
              try clear c35b1
              try clear c37
              try clear c37b0
              try clear c37b1
              try clear c38
              try clear c38b0
              try clear c38b1
              try clear c40
              try clear c42
              try clear c43
              try clear c44
              try clear p2
              obtain ⟨kq, HA, HJ26, BK188, HB⟩ := hcut
              cases kq with
              | zero => exact absurd HA.out (by simp [wimplelaw4_RdataBack.j1])
              | succ kj26 =>
                have H := HA.out
                clear HA
                simp only [wimplelaw4_RdataBack.j1] at H
                replace H := Option.bind_eq_some_iff.mp H
                obtain ⟨⟨t210, t211⟩, A470, H⟩ := H
                replace H : ((wimplelaw0_Num.f t211).bind fun t212 => (if t212 = 0 then ((rdata_Unsoa.f t210).bind fun bt213 => ((wimplelaw0_Num.f bt213.2.2.2.2.2.2.2).bind fun t222 => (if t222 = 0 then (if (!(bt213.1.toList == a2_0.toList) || (!(bt213.2.1.toList == a2_1.toList) || (!(bt213.2.2.1 == a2_2) || (!(bt213.2.2.2.1 == a2_3) || (!(bt213.2.2.2.2.1 == a2_4) || (!(bt213.2.2.2.2.2.1 == a2_5) || (!(bt213.2.2.2.2.2.2.1 == a2_6)))))))) = true then (none) else ((rdata_May.f 6 t210).bind fun t223 => (if t223 = true then (if t210.size + 1 ≤ 9223372036854775807 then ((rdata_May.f 6 (t210 ++ (⟨#[97]⟩ : ByteArray))).bind fun t224 => (if t224 = true then (none) else (wimplelaw4_RdataBack.j2 kj26 l3))) else (none)) else (none)))) else (none)))) else (wimplelaw4_RdataBack.j2 kj26 l3))) = some r := H
                have A47 := Aside0.mk A470
                clear A470
                replace H := Option.bind_eq_some_iff.mp H
                obtain ⟨t212, A480, H⟩ := H
                replace H : (if t212 = 0 then ((rdata_Unsoa.f t210).bind fun bt213 => ((wimplelaw0_Num.f bt213.2.2.2.2.2.2.2).bind fun t222 => (if t222 = 0 then (if (!(bt213.1.toList == a2_0.toList) || (!(bt213.2.1.toList == a2_1.toList) || (!(bt213.2.2.1 == a2_2) || (!(bt213.2.2.2.1 == a2_3) || (!(bt213.2.2.2.2.1 == a2_4) || (!(bt213.2.2.2.2.2.1 == a2_5) || (!(bt213.2.2.2.2.2.2.1 == a2_6)))))))) = true then (none) else ((rdata_May.f 6 t210).bind fun t223 => (if t223 = true then (if t210.size + 1 ≤ 9223372036854775807 then ((rdata_May.f 6 (t210 ++ (⟨#[97]⟩ : ByteArray))).bind fun t224 => (if t224 = true then (none) else (wimplelaw4_RdataBack.j2 kj26 l3))) else (none)) else (none)))) else (none)))) else (wimplelaw4_RdataBack.j2 kj26 l3)) = some r := H
                have A48 := Aside0.mk A480
                clear A480
                have HC49 := Aside0.mk H
                clear H
                (try clear hcz44_0 hcz44_1 hcz44_2 hcz44_3 hcz44_4 hcz44_5 hcz44_6 hfz44_0 hfz44_1 hfz44_2 hfz44_3 hfz44_4 hfz44_5 hfz44_6)
                have hcz50_0 : wc.cell? ⟨gb188, 0, none⟩ = some (.string a2_0) := (blk_cell BK188.out 0).trans rfl
                have hcz50_1 : wc.cell? ⟨gb188, 1, none⟩ = some (.string a2_1) := (blk_cell BK188.out 1).trans rfl
                have hcz50_2 : wc.cell? ⟨gb188, 2, none⟩ = some (.int .i64 a2_2) := (blk_cell BK188.out 2).trans rfl
                have hcz50_3 : wc.cell? ⟨gb188, 3, none⟩ = some (.int .i64 a2_3) := (blk_cell BK188.out 3).trans rfl
                have hcz50_4 : wc.cell? ⟨gb188, 4, none⟩ = some (.int .i64 a2_4) := (blk_cell BK188.out 4).trans rfl
                have hcz50_5 : wc.cell? ⟨gb188, 5, none⟩ = some (.int .i64 a2_5) := (blk_cell BK188.out 5).trans rfl
                have hcz50_6 : wc.cell? ⟨gb188, 6, none⟩ = some (.int .i64 a2_6) := (blk_cell BK188.out 6).trans rfl
                have hfz50_0 := blk_frozen BK188.out 0
                have hfz50_1 := blk_frozen BK188.out 1
                have hfz50_2 := blk_frozen BK188.out 2
                have hfz50_3 := blk_frozen BK188.out 3
                have hfz50_4 := blk_frozen BK188.out 4
                have hfz50_5 := blk_frozen BK188.out 5
                have hfz50_6 := blk_frozen BK188.out 6
                go_upto_if 118 with (first | ((with_reducible refine gate_dst (N := 113) rfl ?_); (with_reducible refine gate_callee (f := 35) rfl ?_); refine goesL_ (some 113) rfl rfl Try.func35 (by kernel_rfl) rfl #[.agg #[.string a2_0, .string a2_1, .int .i64 a2_2, .int .i64 a2_3, .int .i64 a2_4, .int .i64 a2_5, .int .i64 a2_6]] rfl (by (try simp only [List.map_toArray, List.map_cons, List.map_nil]); first | done | rfl | (simp only [List.length_drop, List.length_take]; rfl)) ?_; (with_reducible refine (rdata_Soa.calls a2_0 a2_1 a2_2 a2_3 a2_4 a2_5 a2_6 t210 t211 _ A47.out).mono ?_); rintro e w51 ⟨rfl, hb⟩; refine ⟨_, rfl, ?_⟩; have n0_ := Aside0.mk (blk_below (g := gb188) (o := .cells #[.string a2_0, .string a2_1, .int .i64 a2_2, .int .i64 a2_3, .int .i64 a2_4, .int .i64 a2_5, .int .i64 a2_6] 59 (0, 0)) (by (with_reducible repeat (first | refine blk_drewN ?_ _ | refine blk_drew ?_ | refine blk_alloc ?_ _)); exact BK188.out) hb); have n1_ := Aside0.mk (below_step (by repeat (first | (with_reducible first | exact HB.out | apply below_alloc | apply pw_below_drewN | apply below_drew1 | refine below_set ?_ GE188.out) | exact HB.out)) hb); clear BK188; clear HB; have BK188 := n0_; have HB := n1_; clear n0_ n1_; (try clear hb); (try clear hb2); (try clear hk); (try clear hi)) | ((with_reducible refine gate_dst (N := 117) rfl ?_); (with_reducible refine gate_callee (f := 20) rfl ?_); refine goesL_ (some 117) rfl rfl Try.func20 (by kernel_rfl) rfl #[.int .i64 t211] rfl (by (try simp only [List.map_toArray, List.map_cons, List.map_nil]); first | done | rfl | (simp only [List.length_drop, List.length_take]; rfl)) ?_; (with_reducible refine (wimplelaw0_Num.calls t211 t212 _ A48.out).mono ?_); rintro e w' ⟨rfl, ⟨nd, rfl⟩⟩; refine ⟨_, rfl, ?_⟩))
                (try simp only [Act.put, List.setIfInBounds_toArray, List.set_cons_zero, List.set_cons_succ])
                go_cut [] (fun wc => ∃ (kq : Nat), Aside0 (wimplelaw4_RdataBack.j2 kq l3 = some r) ∧ Aside0 (kq ≤ kj26) ∧ Aside0 (wc.heap[gb188]? = some (.cells #[.string a2_0, .string a2_1, .int .i64 a2_2, .int .i64 a2_3, .int .i64 a2_4, .int .i64 a2_5, .int .i64 a2_6] 59 (0, 0))) ∧ Aside0 (Below w.heap.size w wc))
                case first =>
                  have H := HC49.out
                  clear HC49
                  by_cases c52 : t212 = 0
                  · rw [if_pos c52] at H
                    have c52b0 : (t212 == 0) = true := beq_iff_eq.mpr c52
                    have c52b1 : (t212 != 0) = false := bne_eq_false_iff_eq.mpr c52
                    clear c52
                    (first | rw [c52b0] | (simp only [i64_w, i32_w]; rw [c52b0]) | skip)
                    replace H := Option.bind_eq_some_iff.mp H
                    obtain ⟨⟨t213, t214, t215, t216, t217, t218, t219, t220⟩, A530, H⟩ := H
                    replace H : ((wimplelaw0_Num.f t220).bind fun t222 => (if t222 = 0 then (if (!(t213.toList == a2_0.toList) || (!(t214.toList == a2_1.toList) || (!(t215 == a2_2) || (!(t216 == a2_3) || (!(t217 == a2_4) || (!(t218 == a2_5) || (!(t219 == a2_6)))))))) = true then (none) else ((rdata_May.f 6 t210).bind fun t223 => (if t223 = true then (if t210.size + 1 ≤ 9223372036854775807 then ((rdata_May.f 6 (t210 ++ (⟨#[97]⟩ : ByteArray))).bind fun t224 => (if t224 = true then (none) else (wimplelaw4_RdataBack.j2 kj26 l3))) else (none)) else (none)))) else (none))) = some r := H
                    have A53 := Aside0.mk A530
                    clear A530
                    replace H := Option.bind_eq_some_iff.mp H
                    obtain ⟨t222, A540, H⟩ := H
                    replace H : (if t222 = 0 then (if (!(t213.toList == a2_0.toList) || (!(t214.toList == a2_1.toList) || (!(t215 == a2_2) || (!(t216 == a2_3) || (!(t217 == a2_4) || (!(t218 == a2_5) || (!(t219 == a2_6)))))))) = true then (none) else ((rdata_May.f 6 t210).bind fun t223 => (if t223 = true then (if t210.size + 1 ≤ 9223372036854775807 then ((rdata_May.f 6 (t210 ++ (⟨#[97]⟩ : ByteArray))).bind fun t224 => (if t224 = true then (none) else (wimplelaw4_RdataBack.j2 kj26 l3))) else (none)) else (none)))) else (none)) = some r := H
                    have A54 := Aside0.mk A540
                    clear A540
                    by_cases c55 : t222 = 0
                    · rw [if_pos c55] at H
                      have c55b0 : (t222 == 0) = true := beq_iff_eq.mpr c55
                      have c55b1 : (t222 != 0) = false := bne_eq_false_iff_eq.mpr c55
                      clear c55
                      by_cases c56 : (!(t213.toList == a2_0.toList) || (!(t214.toList == a2_1.toList) || (!(t215 == a2_2) || (!(t216 == a2_3) || (!(t217 == a2_4) || (!(t218 == a2_5) || (!(t219 == a2_6)))))))) = true
                      · rw [if_pos c56] at H
                        exact absurd H (by simp)
                      · rw [if_neg c56] at H
                        have c56b0 : (!(t213.toList == a2_0.toList) || (!(t214.toList == a2_1.toList) || (!(t215 == a2_2) || (!(t216 == a2_3) || (!(t217 == a2_4) || (!(t218 == a2_5) || (!(t219 == a2_6)))))))) = false := by simpa using c56
                        clear c56
                        replace H := Option.bind_eq_some_iff.mp H
                        obtain ⟨t223, A570, H⟩ := H
                        replace H : (if t223 = true then (if t210.size + 1 ≤ 9223372036854775807 then ((rdata_May.f 6 (t210 ++ (⟨#[97]⟩ : ByteArray))).bind fun t224 => (if t224 = true then (none) else (wimplelaw4_RdataBack.j2 kj26 l3))) else (none)) else (none)) = some r := H
                        have A57 := Aside0.mk A570
                        clear A570
                        by_cases c58 : t223 = true
                        · subst c58
                          have H1 : (if t210.size + 1 ≤ 9223372036854775807 then ((rdata_May.f 6 (t210 ++ (⟨#[97]⟩ : ByteArray))).bind fun t224 => (if t224 = true then (none) else (wimplelaw4_RdataBack.j2 kj26 l3))) else (none)) = some r := by rw [if_pos rfl] at H; exact H
                          clear H
                          have H := H1
                          clear H1
                          by_cases c59 : t210.size + 1 ≤ 9223372036854775807
                          · rw [if_pos c59] at H
                            have c59b0 := eq_true c59
                            have c59b1 : decide (t210.size + 1 ≤ 9223372036854775807) = true := decide_eq_true c59
                            try have c59b2 : (9223372036854775807 < t210.size + 1) = False := eq_false (Nat.not_lt.2 c59)
                            replace H := Option.bind_eq_some_iff.mp H
                            obtain ⟨t224, A600, H⟩ := H
                            replace H : (if t224 = true then (none) else (wimplelaw4_RdataBack.j2 kj26 l3)) = some r := H
                            have A60 := Aside0.mk A600
                            clear A600
                            by_cases c61 : t224 = true
                            · subst c61
                              have H1 : (none) = some r := by rw [if_pos rfl] at H; exact H
                              clear H
                              have H := H1
                              clear H1
                              exact absurd H (by simp)
                            · replace c61 := Bool.eq_false_iff.mpr c61
                              subst c61
                              have H1 : (wimplelaw4_RdataBack.j2 kj26 l3) = some r := by rw [if_neg (show ¬ (false = true) by decide)] at H; exact H
                              clear H
                              have H := H1
                              clear H1
                              have H' := Aside0.mk H
                              clear H
                              go_wp2_with (first | ((with_reducible refine gate_dst (N := 121) rfl ?_); (with_reducible refine gate_callee (f := 37) rfl ?_); refine goesL_ (some 121) rfl rfl Try.func37 (by kernel_rfl) rfl #[.string t210] rfl (by (try simp only [List.map_toArray, List.map_cons, List.map_nil]); first | done | rfl | (simp only [List.length_drop, List.length_take]; rfl)) ?_; (with_reducible refine (rdata_Unsoa.calls t210 t213 t214 t215 t216 t217 t218 t219 t220 _ A53.out).mono ?_); rintro e w62 ⟨rfl, hb⟩; refine ⟨_, rfl, ?_⟩; have n0_ := Aside0.mk (blk_below (g := gb188) (o := .cells #[.string a2_0, .string a2_1, .int .i64 a2_2, .int .i64 a2_3, .int .i64 a2_4, .int .i64 a2_5, .int .i64 a2_6] 59 (0, 0)) (by (with_reducible repeat (first | refine blk_drewN ?_ _ | refine blk_drew ?_ | refine blk_alloc ?_ _)); exact BK188.out) hb); have n1_ := Aside0.mk (below_step (by repeat (first | (with_reducible first | exact HB.out | apply below_alloc | apply pw_below_drewN | apply below_drew1 | refine below_set ?_ GE188.out) | exact HB.out)) hb); clear BK188; clear HB; have BK188 := n0_; have HB := n1_; clear n0_ n1_; (try clear hb); (try clear hb2); (try clear hk); (try clear hi)) | ((with_reducible refine gate_dst (N := 21) rfl ?_); refine box_event ?hg (N := 21) ?hd (cs := #[.string (⟨#[]⟩ : ByteArray), .string (⟨#[]⟩ : ByteArray), .int .i64 0, .int .i64 0, .int .i64 0, .int .i64 0, .int .i64 0]) (t := 59) ?hr ?_; (case hd => rfl); (case hg => rfl); (case hr => first | (go_simp; done) | (go_simp; rfl)); intro gb221 hg w63 hbox hb; have n0_ := Aside0.mk (blk_below (g := gb188) (o := .cells #[.string a2_0, .string a2_1, .int .i64 a2_2, .int .i64 a2_3, .int .i64 a2_4, .int .i64 a2_5, .int .i64 a2_6] 59 (0, 0)) (by (with_reducible repeat (first | refine blk_drewN ?_ _ | refine blk_drew ?_ | refine blk_alloc ?_ _)); exact BK188.out) hb); have n1_ := Aside0.mk (below_step (by repeat (first | (with_reducible first | exact HB.out | apply below_alloc | apply pw_below_drewN | apply below_drew1 | refine below_set ?_ GE188.out) | exact HB.out)) hb); have n2_ := Aside0.mk (hbox); have n3_ := Aside0.mk ((by rw [hg]; exact (below_size (by repeat (first | (with_reducible first | exact HB.out | apply below_alloc | apply pw_below_drewN | apply below_drew1 | refine below_set ?_ GE188.out) | exact HB.out))) : w.heap.size ≤ gb221)); have n4_ := Aside0.mk ((by rw [hg]; exact (below_size (by repeat (first | (with_reducible first | exact HB.out | apply below_alloc | apply pw_below_drewN | apply below_drew1 | refine below_set ?_ GE188.out) | exact HB.out))) : w.heap.size ≤ gb221)); have n5_ := Aside0.mk ((by rw [hg]; exact Nat.ne_of_lt (blk_lt (g := gb188) (o := .cells #[.string a2_0, .string a2_1, .int .i64 a2_2, .int .i64 a2_3, .int .i64 a2_4, .int .i64 a2_5, .int .i64 a2_6] 59 (0, 0)) (by (with_reducible repeat (first | refine blk_drewN ?_ _ | refine blk_drew ?_ | refine blk_alloc ?_ _)); exact BK188.out)) : gb188 ≠ gb221)); have n6_ := Aside0.mk ((by rw [hg]; exact Nat.ne_of_gt (blk_lt (g := gb188) (o := .cells #[.string a2_0, .string a2_1, .int .i64 a2_2, .int .i64 a2_3, .int .i64 a2_4, .int .i64 a2_5, .int .i64 a2_6] 59 (0, 0)) (by (with_reducible repeat (first | refine blk_drewN ?_ _ | refine blk_drew ?_ | refine blk_alloc ?_ _)); exact BK188.out)) : gb221 ≠ gb188)); clear BK188; clear HB; have BK188 := n0_; have HB := n1_; have BK221 := n2_; have GW221 := n3_; have GE221 := n4_; have NB188_221 := n5_; have NB221_188 := n6_; clear n0_ n1_ n2_ n3_ n4_ n5_ n6_; clear hb hbox hg; have hnb64 := NB221_188.out; have hnc64 := NB188_221.out; (try clear hcz44_0 hcz44_1 hcz44_2 hcz44_3 hcz44_4 hcz44_5 hcz44_6 hfz44_0 hfz44_1 hfz44_2 hfz44_3 hfz44_4 hfz44_5 hfz44_6); (try clear hcz50_0 hcz50_1 hcz50_2 hcz50_3 hcz50_4 hcz50_5 hcz50_6 hfz50_0 hfz50_1 hfz50_2 hfz50_3 hfz50_4 hfz50_5 hfz50_6); have hcz65_0 : w63.cell? ⟨gb221, 0, none⟩ = some (.string (⟨#[]⟩ : ByteArray)) := (blk_cell BK221.out 0).trans rfl; have hcz65_1 : w63.cell? ⟨gb221, 1, none⟩ = some (.string (⟨#[]⟩ : ByteArray)) := (blk_cell BK221.out 1).trans rfl; have hcz65_2 : w63.cell? ⟨gb221, 2, none⟩ = some (.int .i64 0) := (blk_cell BK221.out 2).trans rfl; have hcz65_3 : w63.cell? ⟨gb221, 3, none⟩ = some (.int .i64 0) := (blk_cell BK221.out 3).trans rfl; have hcz65_4 : w63.cell? ⟨gb221, 4, none⟩ = some (.int .i64 0) := (blk_cell BK221.out 4).trans rfl; have hcz65_5 : w63.cell? ⟨gb221, 5, none⟩ = some (.int .i64 0) := (blk_cell BK221.out 5).trans rfl; have hcz65_6 : w63.cell? ⟨gb221, 6, none⟩ = some (.int .i64 0) := (blk_cell BK221.out 6).trans rfl; have hfz65_0 := blk_frozen BK221.out 0; have hfz65_1 := blk_frozen BK221.out 1; have hfz65_2 := blk_frozen BK221.out 2; have hfz65_3 := blk_frozen BK221.out 3; have hfz65_4 := blk_frozen BK221.out 4; have hfz65_5 := blk_frozen BK221.out 5; have hfz65_6 := blk_frozen BK221.out 6) | ((with_reducible refine gate_dst (N := 125) rfl ?_); (with_reducible refine gate_callee (f := 20) rfl ?_); refine goesL_ (some 125) rfl rfl Try.func20 (by kernel_rfl) rfl #[.int .i64 t220] rfl (by (try simp only [List.map_toArray, List.map_cons, List.map_nil]); first | done | rfl | (simp only [List.length_drop, List.length_take]; rfl)) ?_; (with_reducible refine (wimplelaw0_Num.calls t220 t222 _ A54.out).mono ?_); rintro e w' ⟨rfl, ⟨nd, rfl⟩⟩; refine ⟨_, rfl, ?_⟩; (try clear hcz44_0 hcz44_1 hcz44_2 hcz44_3 hcz44_4 hcz44_5 hcz44_6 hfz44_0 hfz44_1 hfz44_2 hfz44_3 hfz44_4 hfz44_5 hfz44_6); (try clear hcz50_0 hcz50_1 hcz50_2 hcz50_3 hcz50_4 hcz50_5 hcz50_6 hfz50_0 hfz50_1 hfz50_2 hfz50_3 hfz50_4 hfz50_5 hfz50_6); have hcz66_0 : w63.cell? ⟨gb188, 0, none⟩ = some (.string a2_0) := (blk_cell BK188.out 0).trans rfl; have hcz66_1 : w63.cell? ⟨gb188, 1, none⟩ = some (.string a2_1) := (blk_cell BK188.out 1).trans rfl; have hcz66_2 : w63.cell? ⟨gb188, 2, none⟩ = some (.int .i64 a2_2) := (blk_cell BK188.out 2).trans rfl; have hcz66_3 : w63.cell? ⟨gb188, 3, none⟩ = some (.int .i64 a2_3) := (blk_cell BK188.out 3).trans rfl; have hcz66_4 : w63.cell? ⟨gb188, 4, none⟩ = some (.int .i64 a2_4) := (blk_cell BK188.out 4).trans rfl; have hcz66_5 : w63.cell? ⟨gb188, 5, none⟩ = some (.int .i64 a2_5) := (blk_cell BK188.out 5).trans rfl; have hcz66_6 : w63.cell? ⟨gb188, 6, none⟩ = some (.int .i64 a2_6) := (blk_cell BK188.out 6).trans rfl; have hfz66_0 := blk_frozen BK188.out 0; have hfz66_1 := blk_frozen BK188.out 1; have hfz66_2 := blk_frozen BK188.out 2; have hfz66_3 := blk_frozen BK188.out 3; have hfz66_4 := blk_frozen BK188.out 4; have hfz66_5 := blk_frozen BK188.out 5; have hfz66_6 := blk_frozen BK188.out 6) | (go_at_call 33; (with_reducible refine (rdata_May.calls 6 t210 true _ A57.out).mono ?_); rintro e w67 ⟨rfl, hb⟩; have n0_ := Aside0.mk (blk_below (g := gb188) (o := .cells #[.string a2_0, .string a2_1, .int .i64 a2_2, .int .i64 a2_3, .int .i64 a2_4, .int .i64 a2_5, .int .i64 a2_6] 59 (0, 0)) (by (with_reducible repeat (first | refine blk_drewN ?_ _ | refine blk_drew ?_ | refine blk_alloc ?_ _)); refine blk_far ?_ NB188_221.out _; (with_reducible repeat (first | refine blk_drewN ?_ _ | refine blk_drew ?_ | refine blk_alloc ?_ _)); refine blk_far ?_ NB188_221.out _; (with_reducible repeat (first | refine blk_drewN ?_ _ | refine blk_drew ?_ | refine blk_alloc ?_ _)); refine blk_far ?_ NB188_221.out _; (with_reducible repeat (first | refine blk_drewN ?_ _ | refine blk_drew ?_ | refine blk_alloc ?_ _)); refine blk_far ?_ NB188_221.out _; (with_reducible repeat (first | refine blk_drewN ?_ _ | refine blk_drew ?_ | refine blk_alloc ?_ _)); refine blk_far ?_ NB188_221.out _; (with_reducible repeat (first | refine blk_drewN ?_ _ | refine blk_drew ?_ | refine blk_alloc ?_ _)); refine blk_far ?_ NB188_221.out _; (with_reducible repeat (first | refine blk_drewN ?_ _ | refine blk_drew ?_ | refine blk_alloc ?_ _)); refine blk_far ?_ NB188_221.out _; (with_reducible repeat (first | refine blk_drewN ?_ _ | refine blk_drew ?_ | refine blk_alloc ?_ _)); exact BK188.out) hb); have n1_ := Aside0.mk (blk_below (g := gb221) (o := .cells #[.string t213, .string t214, .int .i64 t215, .int .i64 t216, .int .i64 t217, .int .i64 t218, .int .i64 t219] 59 (0, 0)) (by (with_reducible repeat (first | refine blk_drewN ?_ _ | refine blk_drew ?_ | refine blk_alloc ?_ _)); refine blk_put (cs := #[.string t213, .string t214, .int .i64 t215, .int .i64 t216, .int .i64 t217, .int .i64 t218, .int .i64 0]) ?_ 6 _ rfl; (with_reducible repeat (first | refine blk_drewN ?_ _ | refine blk_drew ?_ | refine blk_alloc ?_ _)); refine blk_put (cs := #[.string t213, .string t214, .int .i64 t215, .int .i64 t216, .int .i64 t217, .int .i64 0, .int .i64 0]) ?_ 5 _ rfl; (with_reducible repeat (first | refine blk_drewN ?_ _ | refine blk_drew ?_ | refine blk_alloc ?_ _)); refine blk_put (cs := #[.string t213, .string t214, .int .i64 t215, .int .i64 t216, .int .i64 0, .int .i64 0, .int .i64 0]) ?_ 4 _ rfl; (with_reducible repeat (first | refine blk_drewN ?_ _ | refine blk_drew ?_ | refine blk_alloc ?_ _)); refine blk_put (cs := #[.string t213, .string t214, .int .i64 t215, .int .i64 0, .int .i64 0, .int .i64 0, .int .i64 0]) ?_ 3 _ rfl; (with_reducible repeat (first | refine blk_drewN ?_ _ | refine blk_drew ?_ | refine blk_alloc ?_ _)); refine blk_put (cs := #[.string t213, .string t214, .int .i64 0, .int .i64 0, .int .i64 0, .int .i64 0, .int .i64 0]) ?_ 2 _ rfl; (with_reducible repeat (first | refine blk_drewN ?_ _ | refine blk_drew ?_ | refine blk_alloc ?_ _)); refine blk_put (cs := #[.string t213, .string (⟨#[]⟩ : ByteArray), .int .i64 0, .int .i64 0, .int .i64 0, .int .i64 0, .int .i64 0]) ?_ 1 _ rfl; (with_reducible repeat (first | refine blk_drewN ?_ _ | refine blk_drew ?_ | refine blk_alloc ?_ _)); refine blk_put (cs := #[.string (⟨#[]⟩ : ByteArray), .string (⟨#[]⟩ : ByteArray), .int .i64 0, .int .i64 0, .int .i64 0, .int .i64 0, .int .i64 0]) ?_ 0 _ rfl; (with_reducible repeat (first | refine blk_drewN ?_ _ | refine blk_drew ?_ | refine blk_alloc ?_ _)); exact BK221.out) hb); have n2_ := Aside0.mk (below_step (by repeat (first | (with_reducible first | exact HB.out | apply below_alloc | apply pw_below_drewN | apply below_drew1 | refine below_set ?_ GE188.out | refine below_set ?_ GE221.out) | exact HB.out)) hb); clear BK188; clear BK221; clear HB; have BK188 := n0_; have BK221 := n1_; have HB := n2_; clear n0_ n1_ n2_; (try clear hb); (try clear hb2); (try clear hk); (try clear hi)) | (go_at_call 33; (with_reducible refine (rdata_May.calls 6 (t210 ++ (⟨#[97]⟩ : ByteArray)) false _ A60.out).mono ?_); rintro e w68 ⟨rfl, hb⟩; have n0_ := Aside0.mk (blk_below (g := gb188) (o := .cells #[.string a2_0, .string a2_1, .int .i64 a2_2, .int .i64 a2_3, .int .i64 a2_4, .int .i64 a2_5, .int .i64 a2_6] 59 (0, 0)) (by (with_reducible repeat (first | refine blk_drewN ?_ _ | refine blk_drew ?_ | refine blk_alloc ?_ _)); exact BK188.out) hb); have n1_ := Aside0.mk (blk_below (g := gb221) (o := .cells #[.string t213, .string t214, .int .i64 t215, .int .i64 t216, .int .i64 t217, .int .i64 t218, .int .i64 t219] 59 (0, 0)) (by (with_reducible repeat (first | refine blk_drewN ?_ _ | refine blk_drew ?_ | refine blk_alloc ?_ _)); exact BK221.out) hb); have n2_ := Aside0.mk (below_step (by repeat (first | (with_reducible first | exact HB.out | apply below_alloc | apply pw_below_drewN | apply below_drew1 | refine below_set ?_ GE188.out | refine below_set ?_ GE221.out) | exact HB.out)) hb); clear BK188; clear BK221; clear HB; have BK188 := n0_; have BK221 := n1_; have HB := n2_; clear n0_ n1_ n2_; (try clear hb); (try clear hb2); (try clear hk); (try clear hi)))
                              go_meet
                              case rel => exact ⟨_, H', ⟨by have := HJ8.out; have := HJ26.out; first | omega | exact Nat.le_refl _⟩, ⟨by (with_reducible repeat (first | refine blk_drewN ?_ _ | refine blk_drew ?_ | refine blk_alloc ?_ _)); exact BK188.out⟩, ⟨by repeat (first | (with_reducible first | exact HB.out | apply below_alloc | apply pw_below_drewN | apply below_drew1 | refine below_set ?_ GE188.out | refine below_set ?_ GE221.out) | exact HB.out)⟩⟩
                          · rw [if_neg c59] at H
                            exact absurd H (by simp)
                        · replace c58 := Bool.eq_false_iff.mpr c58
                          subst c58
                          have H1 : (none) = some r := by rw [if_neg (show ¬ (false = true) by decide)] at H; exact H
                          clear H
                          have H := H1
                          clear H1
                          exact absurd H (by simp)
                    · rw [if_neg c55] at H
                      exact absurd H (by simp)
                  · rw [if_neg c52] at H
                    have c52b0 : (t212 == 0) = false := beq_eq_false_iff_ne.mpr c52
                    have c52b1 : (t212 != 0) = true := bne_iff_ne.mpr c52
                    (first | rw [c52b0] | (simp only [i64_w, i32_w]; rw [c52b0]) | skip)
                    have H' := Aside0.mk H
                    clear H
                    go_wp2
                    go_meet
                    case rel => exact ⟨_, H', ⟨by have := HJ8.out; have := HJ26.out; first | omega | exact Nat.le_refl _⟩, ⟨by (with_reducible repeat (first | refine blk_drewN ?_ _ | refine blk_drew ?_ | refine blk_alloc ?_ _)); exact BK188.out⟩, ⟨by repeat (first | (with_reducible first | exact HB.out | apply below_alloc | apply pw_below_drewN | apply below_drew1 | refine below_set ?_ GE188.out) | exact HB.out)⟩⟩
                case rest =>
                  clear HC49
                  try clear c1
                  try clear c2
                  try clear p2
                  try clear c3
                  try clear c4
                  try clear c5
                  try clear c6
                  try clear c9
                  try clear c15
                  try clear c15b0
                  try clear c15b1
                  try clear c17
                  try clear c17b0
                  try clear c17b1
                  try clear c18
                  try clear c18b0
                  try clear c18b1
                  try clear c20
                  try clear c21
                  try clear c25
                  try clear c25b0
                  try clear c25b1
                  try clear c25b2
                  try clear c27
                  try clear c29
                  try clear c30
                  try clear c30b0
                  try clear c30b1
                  try clear c31
                  try clear c34
                  try clear c34b0
                  try clear c34b1
                  try clear c35
                  try clear c35b0
                  try clear c35b1
                  try clear c37
                  try clear c37b0
                  try clear c37b1
                  try clear c38
                  try clear c38b0
                  try clear c38b1
                  try clear c40
                  try clear c42
                  try clear c43
                  try clear c44
                  try clear c52
                  try clear c52b0
                  try clear c52b1
                  try clear c55
                  try clear c55b0
                  try clear c55b1
                  try clear c56
                  try clear c56b0
                  try clear c58
                  try clear c59
                  try clear c59b0
                  try clear c59b1
                  try clear c59b2
                  try clear c61
                  try clear c64
                  try clear hcz44_0
                  try clear hcz44_1
                  try clear hcz44_2
                  try clear hcz44_3
                  try clear hcz44_4
                  try clear hcz44_5
                  try clear hcz44_6
                  try clear hcz50_0
                  try clear hcz50_1
                  try clear hcz50_2
                  try clear hcz50_3
                  try clear hcz50_4
                  try clear hcz50_5
                  try clear hcz50_6
                  try clear hcz65_0
                  try clear hcz65_1
                  try clear hcz65_2
                  try clear hcz65_3
                  try clear hcz65_4
                  try clear hcz65_5
                  try clear hcz65_6
                  try clear hcz66_0
                  try clear hcz66_1
                  try clear hcz66_2
                  try clear hcz66_3
                  try clear hcz66_4
                  try clear hcz66_5
                  try clear hcz66_6
                  try clear hfz44_0
                  try clear hfz44_1
                  try clear hfz44_2
                  try clear hfz44_3
                  try clear hfz44_4
                  try clear hfz44_5
                  try clear hfz44_6
                  try clear hfz50_0
                  try clear hfz50_1
                  try clear hfz50_2
                  try clear hfz50_3
                  try clear hfz50_4
                  try clear hfz50_5
                  try clear hfz50_6
                  try clear hfz65_0
                  try clear hfz65_1
                  try clear hfz65_2
                  try clear hfz65_3
                  try clear hfz65_4
                  try clear hfz65_5
                  try clear hfz65_6
                  try clear hfz66_0
                  try clear hfz66_1
                  try clear hfz66_2
                  try clear hfz66_3
                  try clear hfz66_4
                  try clear hfz66_5
                  try clear hfz66_6
                  try clear p2
                  obtain ⟨kq, HA, HJ48, BK188, HB⟩ := hcut
                  cases kq with
                  | zero => exact absurd HA.out (by simp [wimplelaw4_RdataBack.j2])
                  | succ kj48 =>
                    have H := HA.out
                    clear HA
                    simp only [wimplelaw4_RdataBack.j2] at H
                    replace H := Option.bind_eq_some_iff.mp H
                    obtain ⟨⟨t225, t226⟩, A690, H⟩ := H
                    replace H : ((wimplelaw0_Num.f t226).bind fun t227 => (if t227 = 0 then ((wimplelaw0_Num.f t226).bind fun t228 => (if t228 = 0 then ((rdata_May.f 16 t225).bind fun t229 => (some t229)) else (none))) else (if t225.toList = ([] : List UInt8) then (some true) else ((wimplelaw0_Num.f t226).bind fun t230 => (if t230 = 0 then ((rdata_May.f 16 t225).bind fun t231 => (some t231)) else (none)))))) = some r := H
                    have A69 := Aside0.mk A690
                    clear A690
                    replace H := Option.bind_eq_some_iff.mp H
                    obtain ⟨t227, A700, H⟩ := H
                    replace H : (if t227 = 0 then ((wimplelaw0_Num.f t226).bind fun t228 => (if t228 = 0 then ((rdata_May.f 16 t225).bind fun t229 => (some t229)) else (none))) else (if t225.toList = ([] : List UInt8) then (some true) else ((wimplelaw0_Num.f t226).bind fun t230 => (if t230 = 0 then ((rdata_May.f 16 t225).bind fun t231 => (some t231)) else (none))))) = some r := H
                    have A70 := Aside0.mk A700
                    clear A700
                    by_cases c71 : t227 = 0
                    · rw [if_pos c71] at H
                      have c71b0 : (t227 == 0) = true := beq_iff_eq.mpr c71
                      have c71b1 : (t227 != 0) = false := bne_eq_false_iff_eq.mpr c71
                      clear c71
                      replace H := Option.bind_eq_some_iff.mp H
                      obtain ⟨t228, A720, H⟩ := H
                      replace H : (if t228 = 0 then ((rdata_May.f 16 t225).bind fun t229 => (some t229)) else (none)) = some r := H
                      have A72 := Aside0.mk A720
                      clear A720
                      by_cases c73 : t228 = 0
                      · rw [if_pos c73] at H
                        have c73b0 : (t228 == 0) = true := beq_iff_eq.mpr c73
                        have c73b1 : (t228 != 0) = false := bne_eq_false_iff_eq.mpr c73
                        clear c73
                        replace H := Option.bind_eq_some_iff.mp H
                        obtain ⟨t229, A740, H⟩ := H
                        replace H : (some t229) = some r := H
                        have A74 := Aside0.mk A740
                        clear A740
                        obtain rfl := Option.some.inj H
                        go_wp2_with (first | ((with_reducible refine gate_dst (N := 144) rfl ?_); (with_reducible refine gate_callee (f := 40) rfl ?_); refine goesL_ (some 144) rfl rfl Try.func40 (by kernel_rfl) rfl #[.slice A3 l3.length c3] rfl (by (try simp only [List.map_toArray, List.map_cons, List.map_nil]); first | done | rfl | (simp only [List.length_drop, List.length_take]; rfl)) ?_; (with_reducible refine (rdata_Txt.calls kj48 _ _ l3 t225 t226 _ ?side1 ?side2 A69.out).mono ?_); (case side1 => repeat (first | exact (Kd.C_below HR3.out HB.out) | (with_reducible refine Kd.C_alloc ?_ _) | (with_reducible refine Kd.C_drewN ?_ _) | (with_reducible refine Kd.C_drew ?_))); (case side2 => exact HC3.out); rintro e w75 ⟨rfl, hb⟩; refine ⟨_, rfl, ?_⟩; have n0_ := Aside0.mk (blk_below (g := gb188) (o := .cells #[.string a2_0, .string a2_1, .int .i64 a2_2, .int .i64 a2_3, .int .i64 a2_4, .int .i64 a2_5, .int .i64 a2_6] 59 (0, 0)) (by (with_reducible repeat (first | refine blk_drewN ?_ _ | refine blk_drew ?_ | refine blk_alloc ?_ _)); exact BK188.out) hb); have n1_ := Aside0.mk (below_step (by repeat (first | (with_reducible first | exact HB.out | apply below_alloc | apply pw_below_drewN | apply below_drew1 | refine below_set ?_ GE188.out) | exact HB.out)) hb); clear BK188; clear HB; have BK188 := n0_; have HB := n1_; clear n0_ n1_; (try clear hb); (try clear hb2); (try clear hk); (try clear hi)) | ((with_reducible refine gate_dst (N := 148) rfl ?_); (with_reducible refine gate_callee (f := 20) rfl ?_); refine goesL_ (some 148) rfl rfl Try.func20 (by kernel_rfl) rfl #[.int .i64 t226] rfl (by (try simp only [List.map_toArray, List.map_cons, List.map_nil]); first | done | rfl | (simp only [List.length_drop, List.length_take]; rfl)) ?_; (with_reducible refine (wimplelaw0_Num.calls t226 t227 _ A70.out).mono ?_); rintro e w' ⟨rfl, ⟨nd, rfl⟩⟩; refine ⟨_, rfl, ?_⟩) | (go_at_call 20; (with_reducible refine (wimplelaw0_Num.calls t226 t228 _ A72.out).mono ?_); rintro e w' ⟨rfl, ⟨nd, rfl⟩⟩) | (go_at_call 33; (with_reducible refine (rdata_May.calls 16 t225 t229 _ A74.out).mono ?_); rintro e w76 ⟨rfl, hb⟩; have n0_ := Aside0.mk (blk_below (g := gb188) (o := .cells #[.string a2_0, .string a2_1, .int .i64 a2_2, .int .i64 a2_3, .int .i64 a2_4, .int .i64 a2_5, .int .i64 a2_6] 59 (0, 0)) (by (with_reducible repeat (first | refine blk_drewN ?_ _ | refine blk_drew ?_ | refine blk_alloc ?_ _)); exact BK188.out) hb); have n1_ := Aside0.mk (below_step (by repeat (first | (with_reducible first | exact HB.out | apply below_alloc | apply pw_below_drewN | apply below_drew1 | refine below_set ?_ GE188.out) | exact HB.out)) hb); clear BK188; clear HB; have BK188 := n0_; have HB := n1_; clear n0_ n1_; (try clear hb); (try clear hb2); (try clear hk); (try clear hi)))
                        go_ret
                        exact ⟨by first | rfl | (simp [errW_none, errW_some] <;> rfl) | (simp [*, errW_none, errW_some] <;> rfl), by repeat (first | (with_reducible first | exact HB.out | apply below_alloc | apply pw_below_drewN | apply below_drew1 | refine below_set ?_ GE188.out) | exact HB.out)⟩
                      · rw [if_neg c73] at H
                        exact absurd H (by simp)
                    · rw [if_neg c71] at H
                      have c71b0 : (t227 == 0) = false := beq_eq_false_iff_ne.mpr c71
                      have c71b1 : (t227 != 0) = true := bne_iff_ne.mpr c71
                      by_cases c77 : t225.toList = ([] : List UInt8)
                      · rw [if_pos c77] at H
                        have c77b0 : (t225.toList == ([] : List UInt8)) = true := beq_iff_eq.mpr c77
                        have c77b1 : (t225.toList != ([] : List UInt8)) = false := bne_eq_false_iff_eq.mpr c77
                        clear c77
                        obtain rfl := Option.some.inj H
                        go_wp2_with (first | ((with_reducible refine gate_dst (N := 144) rfl ?_); (with_reducible refine gate_callee (f := 40) rfl ?_); refine goesL_ (some 144) rfl rfl Try.func40 (by kernel_rfl) rfl #[.slice A3 l3.length c3] rfl (by (try simp only [List.map_toArray, List.map_cons, List.map_nil]); first | done | rfl | (simp only [List.length_drop, List.length_take]; rfl)) ?_; (with_reducible refine (rdata_Txt.calls kj48 _ _ l3 t225 t226 _ ?side1 ?side2 A69.out).mono ?_); (case side1 => repeat (first | exact (Kd.C_below HR3.out HB.out) | (with_reducible refine Kd.C_alloc ?_ _) | (with_reducible refine Kd.C_drewN ?_ _) | (with_reducible refine Kd.C_drew ?_))); (case side2 => exact HC3.out); rintro e w78 ⟨rfl, hb⟩; refine ⟨_, rfl, ?_⟩; have n0_ := Aside0.mk (blk_below (g := gb188) (o := .cells #[.string a2_0, .string a2_1, .int .i64 a2_2, .int .i64 a2_3, .int .i64 a2_4, .int .i64 a2_5, .int .i64 a2_6] 59 (0, 0)) (by (with_reducible repeat (first | refine blk_drewN ?_ _ | refine blk_drew ?_ | refine blk_alloc ?_ _)); exact BK188.out) hb); have n1_ := Aside0.mk (below_step (by repeat (first | (with_reducible first | exact HB.out | apply below_alloc | apply pw_below_drewN | apply below_drew1 | refine below_set ?_ GE188.out) | exact HB.out)) hb); clear BK188; clear HB; have BK188 := n0_; have HB := n1_; clear n0_ n1_; (try clear hb); (try clear hb2); (try clear hk); (try clear hi)) | ((with_reducible refine gate_dst (N := 148) rfl ?_); (with_reducible refine gate_callee (f := 20) rfl ?_); refine goesL_ (some 148) rfl rfl Try.func20 (by kernel_rfl) rfl #[.int .i64 t226] rfl (by (try simp only [List.map_toArray, List.map_cons, List.map_nil]); first | done | rfl | (simp only [List.length_drop, List.length_take]; rfl)) ?_; (with_reducible refine (wimplelaw0_Num.calls t226 t227 _ A70.out).mono ?_); rintro e w' ⟨rfl, ⟨nd, rfl⟩⟩; refine ⟨_, rfl, ?_⟩))
                        go_ret
                        exact ⟨by first | rfl | (simp [errW_none, errW_some] <;> rfl) | (simp [*, errW_none, errW_some] <;> rfl), by repeat (first | (with_reducible first | exact HB.out | apply below_alloc | apply pw_below_drewN | apply below_drew1 | refine below_set ?_ GE188.out) | exact HB.out)⟩
                      · rw [if_neg c77] at H
                        have c77b0 : (t225.toList == ([] : List UInt8)) = false := beq_eq_false_iff_ne.mpr c77
                        have c77b1 : (t225.toList != ([] : List UInt8)) = true := bne_iff_ne.mpr c77
                        replace H := Option.bind_eq_some_iff.mp H
                        obtain ⟨t230, A790, H⟩ := H
                        replace H : (if t230 = 0 then ((rdata_May.f 16 t225).bind fun t231 => (some t231)) else (none)) = some r := H
                        have A79 := Aside0.mk A790
                        clear A790
                        by_cases c80 : t230 = 0
                        · rw [if_pos c80] at H
                          have c80b0 : (t230 == 0) = true := beq_iff_eq.mpr c80
                          have c80b1 : (t230 != 0) = false := bne_eq_false_iff_eq.mpr c80
                          clear c80
                          replace H := Option.bind_eq_some_iff.mp H
                          obtain ⟨t231, A810, H⟩ := H
                          replace H : (some t231) = some r := H
                          have A81 := Aside0.mk A810
                          clear A810
                          obtain rfl := Option.some.inj H
                          go_wp2_with (first | ((with_reducible refine gate_dst (N := 144) rfl ?_); (with_reducible refine gate_callee (f := 40) rfl ?_); refine goesL_ (some 144) rfl rfl Try.func40 (by kernel_rfl) rfl #[.slice A3 l3.length c3] rfl (by (try simp only [List.map_toArray, List.map_cons, List.map_nil]); first | done | rfl | (simp only [List.length_drop, List.length_take]; rfl)) ?_; (with_reducible refine (rdata_Txt.calls kj48 _ _ l3 t225 t226 _ ?side1 ?side2 A69.out).mono ?_); (case side1 => repeat (first | exact (Kd.C_below HR3.out HB.out) | (with_reducible refine Kd.C_alloc ?_ _) | (with_reducible refine Kd.C_drewN ?_ _) | (with_reducible refine Kd.C_drew ?_))); (case side2 => exact HC3.out); rintro e w82 ⟨rfl, hb⟩; refine ⟨_, rfl, ?_⟩; have n0_ := Aside0.mk (blk_below (g := gb188) (o := .cells #[.string a2_0, .string a2_1, .int .i64 a2_2, .int .i64 a2_3, .int .i64 a2_4, .int .i64 a2_5, .int .i64 a2_6] 59 (0, 0)) (by (with_reducible repeat (first | refine blk_drewN ?_ _ | refine blk_drew ?_ | refine blk_alloc ?_ _)); exact BK188.out) hb); have n1_ := Aside0.mk (below_step (by repeat (first | (with_reducible first | exact HB.out | apply below_alloc | apply pw_below_drewN | apply below_drew1 | refine below_set ?_ GE188.out) | exact HB.out)) hb); clear BK188; clear HB; have BK188 := n0_; have HB := n1_; clear n0_ n1_; (try clear hb); (try clear hb2); (try clear hk); (try clear hi)) | ((with_reducible refine gate_dst (N := 148) rfl ?_); (with_reducible refine gate_callee (f := 20) rfl ?_); refine goesL_ (some 148) rfl rfl Try.func20 (by kernel_rfl) rfl #[.int .i64 t226] rfl (by (try simp only [List.map_toArray, List.map_cons, List.map_nil]); first | done | rfl | (simp only [List.length_drop, List.length_take]; rfl)) ?_; (with_reducible refine (wimplelaw0_Num.calls t226 t227 _ A70.out).mono ?_); rintro e w' ⟨rfl, ⟨nd, rfl⟩⟩; refine ⟨_, rfl, ?_⟩) | (go_at_call 20; (with_reducible refine (wimplelaw0_Num.calls t226 t230 _ A79.out).mono ?_); rintro e w' ⟨rfl, ⟨nd, rfl⟩⟩) | (go_at_call 33; (with_reducible refine (rdata_May.calls 16 t225 t231 _ A81.out).mono ?_); rintro e w83 ⟨rfl, hb⟩; have n0_ := Aside0.mk (blk_below (g := gb188) (o := .cells #[.string a2_0, .string a2_1, .int .i64 a2_2, .int .i64 a2_3, .int .i64 a2_4, .int .i64 a2_5, .int .i64 a2_6] 59 (0, 0)) (by (with_reducible repeat (first | refine blk_drewN ?_ _ | refine blk_drew ?_ | refine blk_alloc ?_ _)); exact BK188.out) hb); have n1_ := Aside0.mk (below_step (by repeat (first | (with_reducible first | exact HB.out | apply below_alloc | apply pw_below_drewN | apply below_drew1 | refine below_set ?_ GE188.out) | exact HB.out)) hb); clear BK188; clear HB; have BK188 := n0_; have HB := n1_; clear n0_ n1_; (try clear hb); (try clear hb2); (try clear hk); (try clear hi)))
                          go_ret
                          exact ⟨by first | rfl | (simp [errW_none, errW_some] <;> rfl) | (simp [*, errW_none, errW_some] <;> rfl), by repeat (first | (with_reducible first | exact HB.out | apply below_alloc | apply pw_below_drewN | apply below_drew1 | refine below_set ?_ GE188.out) | exact HB.out)⟩
                        · rw [if_neg c80] at H
                          exact absurd H (by simp)
  · replace c6 := Bool.eq_false_iff.mpr c6
    subst c6
    have H1 : (none) = some r := by rw [if_neg (show ¬ (false = true) by decide)] at H; exact H
    clear H
    have H := H1
    clear H1
    exact absurd H (by simp)

/-! ### wimpleref1_Be: function 49 -/
def wimpleref1_Be.l0 : Nat → List Int → Int → Int → Option (ByteArray)
  | 0, _, _, _ => none
  | k + 1, x5, x6, x7 => if x7 ≥ 0 then (if 0 ≤ x7 then (if x7 < (x5.length : Int) then (wimpleref1_Be.l0 k (x5.set (x7 : Int).toNat ((Go.bits .and .u64 x6 255) % 256)) (x6 / 256) (wrap64 (x7 - 1))) else (none)) else (none)) else (some (strOfNums x5))
def wimpleref1_Be.f (k : Nat) (a0 : Int) (a1 : Int) : Option (ByteArray) := if 0 ≤ a1 then (if (a1 : Int).toNat ≤ 281474976710656 then (wimpleref1_Be.l0 k (List.replicate (a1 : Int).toNat 0) (IntKind.u64.wrap (a0)) (wrap64 (a1 - 1))) else (none)) else (none)
theorem wimpleref1_Be.mono_l : ∀ k, (∀ y0 y1 y2, LeO (wimpleref1_Be.l0 k y0 y1 y2) (wimpleref1_Be.l0 (k + 1) y0 y1 y2))
  | 0 => fun _ _ _ r h => by simp [wimpleref1_Be.l0] at h
  | k + 1 => by
    have ih0 := wimpleref1_Be.mono_l k
    · intro y0 y1 y2
      unfold wimpleref1_Be.l0
      repeat' first
      | (with_reducible exact ih0 _ _ _)
      | (with_reducible exact LeO.refl _)
      | (with_reducible exact LeO.none _)
      | (with_reducible refine LeO.ite ?_ ?_)
      | (with_reducible refine LeO.bind ?_ (fun _ => ?_))
      | exact ih0 _ _ _
      | exact LeO.none _
      | refine LeO.ite ?_ ?_
      | refine LeO.bind ?_ (fun _ => ?_)
theorem wimpleref1_Be.mono : ∀ a0 a1 k, LeO (wimpleref1_Be.f k a0 a1) (wimpleref1_Be.f (k + 1) a0 a1) := by
  intro a0 a1 k
  have ih0 := wimpleref1_Be.mono_l k
  unfold wimpleref1_Be.f
  repeat' first
      | (with_reducible exact ih0 _ _ _)
      | (with_reducible exact LeO.refl _)
      | (with_reducible exact LeO.none _)
      | (with_reducible refine LeO.ite ?_ ?_)
      | (with_reducible refine LeO.bind ?_ (fun _ => ?_))
      | exact ih0 _ _ _
      | exact LeO.none _
      | refine LeO.ite ?_ ?_
      | refine LeO.bind ?_ (fun _ => ?_)
set_option maxHeartbeats 8000000 in
set_option maxRecDepth 100000 in
theorem wimpleref1_Be.calls (k : Nat) (a0 : Int) (a1 : Int) (r : ByteArray) (w : World) (h : wimpleref1_Be.f k a0 a1 = some r) :
    Calls Try.prog 49 #[.int .i64 a0, .int .i64 a1] w fun e w' => e = .returned (.string r) ∧ Below w.heap.size w w' := by
  have HB := Aside0.mk (Below.refl w.heap.size w)
  have H : (if 0 ≤ a1 then (if (a1 : Int).toNat ≤ 281474976710656 then (wimpleref1_Be.l0 k (List.replicate (a1 : Int).toNat 0) (IntKind.u64.wrap (a0)) (wrap64 (a1 - 1))) else (none)) else (none)) = some r := h
  clear h
  by_cases c3 : 0 ≤ a1
  · rw [if_pos c3] at H
    have c3b0 := eq_true c3
    have c3b1 : decide (0 ≤ a1) = true := decide_eq_true c3
    clear c3
    by_cases c4 : (a1 : Int).toNat ≤ 281474976710656
    · rw [if_pos c4] at H
      have c4b0 := eq_true c4
      have c4b1 : decide ((a1 : Int).toNat ≤ 281474976710656) = true := decide_eq_true c4
      clear c4
      obtain ⟨y232, hy232⟩ : ∃ y_ : List Int, y_ = (List.replicate (a1 : Int).toNat 0) := ⟨_, rfl⟩
      replace H : (wimpleref1_Be.l0 k y232 (IntKind.u64.wrap (a0)) (wrap64 (a1 - 1))) = some r := by first | (rw [hy232]; with_reducible exact H) | (have H2_ := (Option.bind_some _ _).symm.trans H; rw [hy232]; with_reducible exact H2_) | (have H2_ := (Option.bind_some _ _).symm.trans H; with_reducible exact H2_) | with_reducible exact H | (rw [hy232]; exact H) | exact H
      have Ny232 := Aside0.mk hy232
      clear hy232
      have H' := Aside0.mk H
      clear H
      go_enter Try.func49, Try.ntmps49
      go_wp2_with (first | ((with_reducible refine gate_dst (N := 9) rfl ?_); refine Kd.R_make (Kd.int .u8) _ 5 rfl (N := 9) rfl 54 _ _ rfl a1 rfl rfl Try.underlying54 (.int .u8 0) 1 info5 rfl (by decide) (by omega) 0 (ok := fun _ => True) (okp := fun _ => True) rfl (fun _ hk => hk) trivial (of_decide_eq_true (by first | (with_reducible assumption) | assumption)) (Nat.le_trans (Nat.mul_le_mul_right _ (of_decide_eq_true (by first | (with_reducible assumption) | assumption) : a1.toNat ≤ 281474976710656)) (by omega)) (Below.refl _ _) (Nat.le_refl _) ?_; intro v233 w5 ho6 hb hg_ hnew_; clear hg_ hnew_; (first | rw [← Ny232.out] at ho6 | (simp only [Int.reduceToNat] at ho6; rw [← Ny232.out] at ho6)); have n0_ := Aside0.mk (Kd.R_lower ho6 (below_size (by repeat (first | (with_reducible first | exact HB.out | apply below_alloc | apply pw_below_drewN | apply below_drew1) | exact HB.out)))); have n1_ := Aside0.mk (below_step (by repeat (first | (with_reducible first | exact HB.out | apply below_alloc | apply pw_below_drewN | apply below_drew1) | exact HB.out)) hb); clear HB; have HO234 := n0_; have HB := n1_; clear n0_ n1_; clear hb ho6))
      go_loopg [6, 7] k (fun kq v6 v7 w' => ∃ (x5_1 : List Int) (x6_1 : Int) (x7_1 : Int), v6 = .int .u64 x6_1 ∧ v7 = .int .i64 x7_1 ∧ Aside0 (wimpleref1_Be.l0 kq x5_1 x6_1 x7_1 = some r) ∧ Aside0 (kq ≤ k) ∧ Aside0 (Kd.R (Kd.int .u8) 5 w' w.heap.size (fun _ => True) v233 x5_1) ∧ Aside0 (Below w.heap.size w w'))
      case atStart => exact ⟨(y232), (IntKind.u64.wrap (a0)), (wrap64 (a1 - 1)), (by first | rfl | (simp; done) | (simp [*]; done)), (by first | rfl | (simp; done) | (simp [*]; done)), H', ⟨Nat.le_refl _⟩, ⟨by (with_reducible repeat (first | apply Kd.R_alloc | apply Kd.R_drewN | apply Kd.R_drew)); exact HO234.out⟩, ⟨by repeat (first | (with_reducible first | exact HB.out | apply below_alloc | apply pw_below_drewN | apply below_drew1) | exact HB.out)⟩⟩
      case round =>
        clear H'
        try clear p2
        try clear c3
        try clear c3b0
        try clear c3b1
        try clear c4
        try clear c4b0
        try clear c4b1
        try clear p6
        obtain ⟨x5_1, x6_1, x7_1, rfl, rfl, HA, HK1, HO_5, HB⟩ := hrel
        cases gk with
        | zero => exact absurd HA.out (by simp [wimpleref1_Be.l0])
        | succ k1 =>
          have H := HA.out
          clear HA
          simp only [wimpleref1_Be.l0] at H
          by_cases c7 : x7_1 ≥ 0
          · rw [if_pos c7] at H
            have c7b0 : decide (0 ≤ x7_1) = true := decide_eq_true c7
            clear c7
            by_cases c8 : 0 ≤ x7_1
            · rw [if_pos c8] at H
              have c8b0 : decide (0 ≤ x7_1) = true := decide_eq_true c8
              clear c8
              by_cases c9 : x7_1 < (x5_1.length : Int)
              · rw [if_pos c9] at H
                have c9b0 : decide (x7_1 < (x5_1.length : Int)) = true := decide_eq_true c9
                clear c9
                obtain ⟨y235, hy235⟩ : ∃ y_ : List Int, y_ = (x5_1.set (x7_1 : Int).toNat ((Go.bits .and .u64 x6_1 255) % 256)) := ⟨_, rfl⟩
                replace H : (wimpleref1_Be.l0 k1 y235 (x6_1 / 256) (wrap64 (x7_1 - 1))) = some r := by first | (rw [hy235]; with_reducible exact H) | (have H2_ := (Option.bind_some _ _).symm.trans H; rw [hy235]; with_reducible exact H2_) | (have H2_ := (Option.bind_some _ _).symm.trans H; with_reducible exact H2_) | with_reducible exact H | (rw [hy235]; exact H) | exact H
                have Ny235 := Aside0.mk hy235
                clear hy235
                have H' := Aside0.mk H
                clear H
                have p10 : 0 ≤ (x7_1 : Int) := of_decide_eq_true (by first | (with_reducible assumption) | assumption)
                have q10 : (x7_1 : Int) < ((x5_1.length : Int) : Int) := of_decide_eq_true (by first | (with_reducible assumption) | assumption)
                obtain ⟨go10, co10, eo10, gb10, gl10, cl10, HG10⟩ := Kd.R_form HO_5.out (by omega)
                (first | cases eo10 | (injection eo10 with ea_ en_ ec_; (first | subst ea_ | (injection ea_ with ea_; subst ea_)); subst ec_; clear en_))
                have GB10 := Aside0.mk gb10
                have GG10 := Aside0.mk HG10
                clear gb10 gl10 HG10
                obtain ⟨hx10_0, hf10_0⟩ := Kd.R_celln 0 HO_5.out (x7_1 : Int) p10 q10
                replace p10 := eq_true p10
                replace q10 := eq_true q10
                have HP11 := Kd.R_putg HO_5.out (x7_1 : Int) ((Go.bits .and .u64 x6_1 255) % 256)
                go_wp2_with (first | ((with_reducible refine gate_store (t := 5) (p := 23) rfl ?_); refine store_event (t := 5) (p := 23) (v := ?vo_w12) (w1 := (wr.setCell ⟨go10, (x7_1 : Int).toNat, none⟩ (.int .u8 ((Go.bits .and .u64 x6_1 255) % 256)))) ?hg ?ho ?hn ?hr ?_; (case ho => rfl); (case hg => rfl); (case hn => rfl); (case hr => first | (go_simp; done) | (go_simp; rfl)); intro w12 hw; have hg : wr.grownBy w12 (some go10) := (by rw [hw]; exact HP11.2); have hp_ : Kd.R (Kd.int .u8) 5 w12 w.heap.size (fun _ => True) (.slice (some ⟨go10, 0, none⟩) x5_1.length co10) y235 := (by rw [hw, Ny235.out]; exact HP11.1); clear HP11; have n0_ := Aside0.mk (hp_); have n1_ := Aside0.mk ((by rw [hw]; exact below_set (HB.out) GB10.out : Below w.heap.size w w12)); clear HO_5; clear HB; have HO_5 := n0_; have HB := n1_; clear n0_ n1_; clear hg hw hp_))
                go_roundg k1
                case measure => have := HK1.out; omega
                case rel => exact ⟨(y235), (x6_1 / 256), (wrap64 (x7_1 - 1)), (by first | rfl | (simp; done) | (simp [*]; done)), (by first | rfl | (simp; done) | (simp [*]; done)), H', ⟨by have := HK1.out; omega⟩, ⟨by (with_reducible repeat (first | apply Kd.R_alloc | apply Kd.R_drewN | apply Kd.R_drew)); exact HO_5.out⟩, ⟨by repeat (first | (with_reducible first | exact HB.out | apply below_alloc | apply pw_below_drewN | apply below_drew1) | exact HB.out)⟩⟩
              · rw [if_neg c9] at H
                exact absurd H (by simp)
            · rw [if_neg c8] at H
              exact absurd H (by simp)
          · rw [if_neg c7] at H
            have c7b0 : decide (0 ≤ x7_1) = false := decide_eq_false c7
            clear c7
            obtain rfl := Option.some.inj H
            have hcv13 := own_string (P := Try.prog) Try.underlying54 Try.underlying5 Try.underlying9 (Kd.own_of_R HO_5.out)
            go_wp2
            go_ret
            exact ⟨by first | rfl | (simp [errW_none, errW_some] <;> rfl) | (simp [*, errW_none, errW_some] <;> rfl), by repeat (first | (with_reducible first | exact HB.out | apply below_alloc | apply pw_below_drewN | apply below_drew1) | exact HB.out)⟩
    · rw [if_neg c4] at H
      exact absurd H (by simp)
  · rw [if_neg c3] at H
    exact absurd H (by simp)

end Go.Proofs.Ytndcjleadggibaa.PRdT
