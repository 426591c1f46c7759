/- wimpleref4.GetMsg: what it answers, for every string. -/
import Derived.Test.YtjklgdpffmaamaaProg
import Derived.Below
import Derived.Deep.Draws
import Derived.Deep.AppendLies
import Derived.Maps.AppendAt
import Derived.OwnWalk
import Derived.Laws.BytesArg
import Derived.Laws.MakeOwn
import Derived.Laws.OwnMore
import Derived.Deep.OwnRows
import Derived.Tactics
import Derived.Lib.ConvBytes
import Derived.Laws.Slices
import Derived.WalkKit
import Derived.KernelRfl
import Derived.RowKit3
import Derived.Deep.LoopGhost
import Derived.Deep.QuietTactic
import Derived.BigQuiet
import Derived.WideLaws
import Derived.Deep.DeepCutAuto
import Derived.Deep.CutBlock
import Derived.Deep.RegionHeld3
import Derived.Laws.Rows
import Derived.Lib.AppendStr
import Derived.ArgAppend
import Derived.Laws.IdiomCopy
import Derived.OrdersHeld
import Derived.Laws.BitsLemmas
import Derived.RowKit
import Derived.Test.YtjklgdpffmaamaaSt1
import Derived.Test.YtjklgdpffmaamaaSt2
import Derived.Test.YtjklgdpffmaamaaSt3
import Derived.Test.YtjklgdpffmaamaaSt4
import Derived.Test.YtjklgdpffmaamaaSt5
namespace Go.Proofs.Ytjklgdpffmaamaa.Wm
open Go.RowKit Go.PlainAid Go.Maps Go.Proofs.Ytjklgdpffmaamaa.Base Go.Proofs.Ytjklgdpffmaamaa.Oct Go.Proofs.Ytjklgdpffmaamaa.Nm
open Go.Proofs.YtjklgdpffmaamaaW.PrintWords (blk_cell blk_below blk_put blk_frozen blk_ne blk_new blk_lt blk_grown LeO own_nil own_ne own_other own_setCell)
set_option linter.unusedVariables false
/-- So many questions that the document reads from a place on; none: one was none. -/
def rQ (k : Nat) (s : ByteArray) : Nat → Int → List Qn → Option (Option (List Qn × Int))
  | 0, a, acc => some (some (acc, a))
  | n + 1, a, acc => (PRf.wimpleref4_question.f k s a).bind fun x => if x.2.2.2.2 = true then rQ k s n x.2.2.2.1 (acc ++ [⟨x.1, x.2.1, x.2.2.1⟩]) else some none
def rR (k : Nat) (s : ByteArray) : Nat → Int → List Rr → Option (Option (List Rr × Int))
  | 0, a, acc => some (some (acc, a))
  | n + 1, a, acc => (PRf.wimpleref4_record.f k s a).bind fun x => if x.2.2.2.2.2.2 = true then rR k s n x.2.2.2.2.2.1 (acc ++ [⟨x.1, x.2.1, x.2.2.1, x.2.2.2.1, x.2.2.2.2.1⟩]) else some none
/-- What a part's reading leads to. -/
def andThen {α : Type} (x : Option (Option α)) (f : α → Option Got) : Option Got := x.bind fun y => match y with
  | none => some (got0 700)
  | some z => f z
theorem andThen_none {α : Type} {x : Option (Option α)} {f : α → Option Got} {r : Got} (hx : x = some none) (h : andThen x f = some r) : got0 700 = r := by subst hx; exact Option.some.inj h
theorem andThen_some {α : Type} {x : Option (Option α)} {f : α → Option Got} {r : Got} {z : α} (hx : x = some (some z)) (h : andThen x f = some r) : f z = some r := by subst hx; exact h
theorem andThen_is {α : Type} {x : Option (Option α)} {f : α → Option Got} {r : Got} (h : andThen x f = some r) : ∃ y, x = some y := by
  cases x with
  | none => cases h
  | some y => exact ⟨y, rfl⟩
def many4 (x : Int) (f : Option Got) : Option Got := if 64 < x then some (got0 700) else f
/-- What the document reads. -/
def rGetV (k : Nat) (s : ByteArray) : Option Got :=
  if 4096 < s.size then some (got0 701) else if s.size < 12 then some (got0 700) else
    many4 (be2 s 4) (andThen (rQ k s (be2 s 4).toNat 12 []) fun q => many4 (be2 s 6) (andThen (rR k s (be2 s 6).toNat q.2 []) fun a => many4 (be2 s 8) (andThen (rR k s (be2 s 8).toNat a.2 []) fun b => many4 (be2 s 10) (andThen (rR k s (be2 s 10).toNat b.2 []) fun c =>
      if c.2 != (s.size : Int) then some (got0 700) else some ⟨Hd.getH s, q.1, a.1, b.1, c.1, 0⟩))))
set_option maxHeartbeats 8000000 in
set_option maxRecDepth 100000 in
theorem rgetc (s : ByteArray) (w : World) (hs : s.size ≤ 9223372036854775000) {k : Nat} {r : Got} (hq : rGetV k s = some r) : Calls Try.prog 25 #[.string s] w (GetPost s w r) := by
  have HQ := Lib.hid hq
  clear hq
  by_cases h4 : 4096 < s.size
  · have hr : r = got0 701 := by have := HQ.out; unfold rGetV at this; rw [if_pos h4] at this; exact (Option.some.inj this).symm
    subst hr
    have q : decide ((4096 : Int) < (s.size : Int)) = true := by simp; omega
    have pz := blk_new w (.cells mz 27)
    go_enter Try.func25, Try.ntmps25
    go_wp2
    have e0 := (blk_cell pz 0).trans rfl
    have e1 := (blk_cell pz 1).trans rfl
    have e2 := (blk_cell pz 2).trans rfl
    have e3 := (blk_cell pz 3).trans rfl
    have e4 := (blk_cell pz 4).trans rfl
    have e5 := (blk_cell pz 5).trans rfl
    have e6 := (blk_cell pz 6).trans rfl
    have e7 := (blk_cell pz 7).trans rfl
    have e8 := (blk_cell pz 8).trans rfl
    have e9 := (blk_cell pz 9).trans rfl
    have e10 := (blk_cell pz 10).trans rfl
    have e11 := (blk_cell pz 11).trans rfl
    have e12 := (blk_cell pz 12).trans rfl
    exact bodyPost_ret (v := .tuple #[.agg mz, .int .i64 701]) (by simp [results, Try.results25, go_sem, e0, e1, e2, e3, e4, e5, e6, e7, e8, e9, e10, e11, e12]) rfl (post0 s w _ 701 ((Below.refl _ _).alloc (Nat.le_refl _) _))
  · have q : decide ((4096 : Int) < (s.size : Int)) = false := by simp; omega
    have Bp : Below w.heap.size w (w.alloc (.cells mz 27)) := (Below.refl _ _).alloc (Nat.le_refl _) _
    have pz := blk_new w (.cells mz 27)
    have sp : (w.alloc (.cells mz 27)).heap.size = w.heap.size + 1 := by simp
    have kg := Hd.rgot s (w.alloc (.cells mz 27)) hs
    by_cases h12 : s.size < 12
    · have hr : r = got0 700 := by have := HQ.out; unfold rGetV at this; rw [if_neg h4, if_pos h12] at this; exact (Option.some.inj this).symm
      subst hr
      have hE : Hd.gotE s = 600 := Hd.gotE_no (by omega)
      rw [hE] at kg
      clear HQ
      go_enter Try.func25, Try.ntmps25
      go_wp2_with fail
      refine kg.mono ?_
      rintro e w1 ⟨rfl, B1⟩
      have p1 := blk_below pz B1
      have BB := Bp.trans (B1.mono (by omega))
      clear kg pz Bp B1
      have pp : ((w1.alloc (.cells #[.int .i64 (Hd.gotH s).id, .bool (Hd.gotH s).qr, .int .i64 (Hd.gotH s).op, .bool (Hd.gotH s).aa, .bool (Hd.gotH s).tc, .bool (Hd.gotH s).rd, .bool (Hd.gotH s).ra, .int .i64 (Hd.gotH s).z, .int .i64 (Hd.gotH s).rc] 23)).alloc (.cells #[.int .i64 (Hd.gotC s 4), .int .i64 (Hd.gotC s 6), .int .i64 (Hd.gotC s 8), .int .i64 (Hd.gotC s 10)] 80)).heap[w.heap.size]? = some (.cells mz 27 (0, 0)) := Go.Proofs.YtjklgdpffmaamaaW.PrintWords.blk_alloc (Go.Proofs.YtjklgdpffmaamaaW.PrintWords.blk_alloc p1 _) _
      have x0 : ((w1.alloc (.cells #[.int .i64 (Hd.gotH s).id, .bool (Hd.gotH s).qr, .int .i64 (Hd.gotH s).op, .bool (Hd.gotH s).aa, .bool (Hd.gotH s).tc, .bool (Hd.gotH s).rd, .bool (Hd.gotH s).ra, .int .i64 (Hd.gotH s).z, .int .i64 (Hd.gotH s).rc] 23)).alloc (.cells #[.int .i64 (Hd.gotC s 4), .int .i64 (Hd.gotC s 6), .int .i64 (Hd.gotC s 8), .int .i64 (Hd.gotC s 10)] 80)).cell? ⟨w.heap.size, 0, none⟩ = some (.int .i64 0) := (blk_cell pp 0).trans rfl
      have x1 : ((w1.alloc (.cells #[.int .i64 (Hd.gotH s).id, .bool (Hd.gotH s).qr, .int .i64 (Hd.gotH s).op, .bool (Hd.gotH s).aa, .bool (Hd.gotH s).tc, .bool (Hd.gotH s).rd, .bool (Hd.gotH s).ra, .int .i64 (Hd.gotH s).z, .int .i64 (Hd.gotH s).rc] 23)).alloc (.cells #[.int .i64 (Hd.gotC s 4), .int .i64 (Hd.gotC s 6), .int .i64 (Hd.gotC s 8), .int .i64 (Hd.gotC s 10)] 80)).cell? ⟨w.heap.size, 1, none⟩ = some (.bool false) := (blk_cell pp 1).trans rfl
      have x2 : ((w1.alloc (.cells #[.int .i64 (Hd.gotH s).id, .bool (Hd.gotH s).qr, .int .i64 (Hd.gotH s).op, .bool (Hd.gotH s).aa, .bool (Hd.gotH s).tc, .bool (Hd.gotH s).rd, .bool (Hd.gotH s).ra, .int .i64 (Hd.gotH s).z, .int .i64 (Hd.gotH s).rc] 23)).alloc (.cells #[.int .i64 (Hd.gotC s 4), .int .i64 (Hd.gotC s 6), .int .i64 (Hd.gotC s 8), .int .i64 (Hd.gotC s 10)] 80)).cell? ⟨w.heap.size, 2, none⟩ = some (.int .i64 0) := (blk_cell pp 2).trans rfl
      have x3 : ((w1.alloc (.cells #[.int .i64 (Hd.gotH s).id, .bool (Hd.gotH s).qr, .int .i64 (Hd.gotH s).op, .bool (Hd.gotH s).aa, .bool (Hd.gotH s).tc, .bool (Hd.gotH s).rd, .bool (Hd.gotH s).ra, .int .i64 (Hd.gotH s).z, .int .i64 (Hd.gotH s).rc] 23)).alloc (.cells #[.int .i64 (Hd.gotC s 4), .int .i64 (Hd.gotC s 6), .int .i64 (Hd.gotC s 8), .int .i64 (Hd.gotC s 10)] 80)).cell? ⟨w.heap.size, 3, none⟩ = some (.bool false) := (blk_cell pp 3).trans rfl
      have x4 : ((w1.alloc (.cells #[.int .i64 (Hd.gotH s).id, .bool (Hd.gotH s).qr, .int .i64 (Hd.gotH s).op, .bool (Hd.gotH s).aa, .bool (Hd.gotH s).tc, .bool (Hd.gotH s).rd, .bool (Hd.gotH s).ra, .int .i64 (Hd.gotH s).z, .int .i64 (Hd.gotH s).rc] 23)).alloc (.cells #[.int .i64 (Hd.gotC s 4), .int .i64 (Hd.gotC s 6), .int .i64 (Hd.gotC s 8), .int .i64 (Hd.gotC s 10)] 80)).cell? ⟨w.heap.size, 4, none⟩ = some (.bool false) := (blk_cell pp 4).trans rfl
      have x5 : ((w1.alloc (.cells #[.int .i64 (Hd.gotH s).id, .bool (Hd.gotH s).qr, .int .i64 (Hd.gotH s).op, .bool (Hd.gotH s).aa, .bool (Hd.gotH s).tc, .bool (Hd.gotH s).rd, .bool (Hd.gotH s).ra, .int .i64 (Hd.gotH s).z, .int .i64 (Hd.gotH s).rc] 23)).alloc (.cells #[.int .i64 (Hd.gotC s 4), .int .i64 (Hd.gotC s 6), .int .i64 (Hd.gotC s 8), .int .i64 (Hd.gotC s 10)] 80)).cell? ⟨w.heap.size, 5, none⟩ = some (.bool false) := (blk_cell pp 5).trans rfl
      have x6 : ((w1.alloc (.cells #[.int .i64 (Hd.gotH s).id, .bool (Hd.gotH s).qr, .int .i64 (Hd.gotH s).op, .bool (Hd.gotH s).aa, .bool (Hd.gotH s).tc, .bool (Hd.gotH s).rd, .bool (Hd.gotH s).ra, .int .i64 (Hd.gotH s).z, .int .i64 (Hd.gotH s).rc] 23)).alloc (.cells #[.int .i64 (Hd.gotC s 4), .int .i64 (Hd.gotC s 6), .int .i64 (Hd.gotC s 8), .int .i64 (Hd.gotC s 10)] 80)).cell? ⟨w.heap.size, 6, none⟩ = some (.bool false) := (blk_cell pp 6).trans rfl
      have x7 : ((w1.alloc (.cells #[.int .i64 (Hd.gotH s).id, .bool (Hd.gotH s).qr, .int .i64 (Hd.gotH s).op, .bool (Hd.gotH s).aa, .bool (Hd.gotH s).tc, .bool (Hd.gotH s).rd, .bool (Hd.gotH s).ra, .int .i64 (Hd.gotH s).z, .int .i64 (Hd.gotH s).rc] 23)).alloc (.cells #[.int .i64 (Hd.gotC s 4), .int .i64 (Hd.gotC s 6), .int .i64 (Hd.gotC s 8), .int .i64 (Hd.gotC s 10)] 80)).cell? ⟨w.heap.size, 7, none⟩ = some (.int .i64 0) := (blk_cell pp 7).trans rfl
      have x8 : ((w1.alloc (.cells #[.int .i64 (Hd.gotH s).id, .bool (Hd.gotH s).qr, .int .i64 (Hd.gotH s).op, .bool (Hd.gotH s).aa, .bool (Hd.gotH s).tc, .bool (Hd.gotH s).rd, .bool (Hd.gotH s).ra, .int .i64 (Hd.gotH s).z, .int .i64 (Hd.gotH s).rc] 23)).alloc (.cells #[.int .i64 (Hd.gotC s 4), .int .i64 (Hd.gotC s 6), .int .i64 (Hd.gotC s 8), .int .i64 (Hd.gotC s 10)] 80)).cell? ⟨w.heap.size, 8, none⟩ = some (.int .i64 0) := (blk_cell pp 8).trans rfl
      have x9 : ((w1.alloc (.cells #[.int .i64 (Hd.gotH s).id, .bool (Hd.gotH s).qr, .int .i64 (Hd.gotH s).op, .bool (Hd.gotH s).aa, .bool (Hd.gotH s).tc, .bool (Hd.gotH s).rd, .bool (Hd.gotH s).ra, .int .i64 (Hd.gotH s).z, .int .i64 (Hd.gotH s).rc] 23)).alloc (.cells #[.int .i64 (Hd.gotC s 4), .int .i64 (Hd.gotC s 6), .int .i64 (Hd.gotC s 8), .int .i64 (Hd.gotC s 10)] 80)).cell? ⟨w.heap.size, 9, none⟩ = some (.slice none 0 0) := (blk_cell pp 9).trans rfl
      have x10 : ((w1.alloc (.cells #[.int .i64 (Hd.gotH s).id, .bool (Hd.gotH s).qr, .int .i64 (Hd.gotH s).op, .bool (Hd.gotH s).aa, .bool (Hd.gotH s).tc, .bool (Hd.gotH s).rd, .bool (Hd.gotH s).ra, .int .i64 (Hd.gotH s).z, .int .i64 (Hd.gotH s).rc] 23)).alloc (.cells #[.int .i64 (Hd.gotC s 4), .int .i64 (Hd.gotC s 6), .int .i64 (Hd.gotC s 8), .int .i64 (Hd.gotC s 10)] 80)).cell? ⟨w.heap.size, 10, none⟩ = some (.slice none 0 0) := (blk_cell pp 10).trans rfl
      have x11 : ((w1.alloc (.cells #[.int .i64 (Hd.gotH s).id, .bool (Hd.gotH s).qr, .int .i64 (Hd.gotH s).op, .bool (Hd.gotH s).aa, .bool (Hd.gotH s).tc, .bool (Hd.gotH s).rd, .bool (Hd.gotH s).ra, .int .i64 (Hd.gotH s).z, .int .i64 (Hd.gotH s).rc] 23)).alloc (.cells #[.int .i64 (Hd.gotC s 4), .int .i64 (Hd.gotC s 6), .int .i64 (Hd.gotC s 8), .int .i64 (Hd.gotC s 10)] 80)).cell? ⟨w.heap.size, 11, none⟩ = some (.slice none 0 0) := (blk_cell pp 11).trans rfl
      have x12 : ((w1.alloc (.cells #[.int .i64 (Hd.gotH s).id, .bool (Hd.gotH s).qr, .int .i64 (Hd.gotH s).op, .bool (Hd.gotH s).aa, .bool (Hd.gotH s).tc, .bool (Hd.gotH s).rd, .bool (Hd.gotH s).ra, .int .i64 (Hd.gotH s).z, .int .i64 (Hd.gotH s).rc] 23)).alloc (.cells #[.int .i64 (Hd.gotC s 4), .int .i64 (Hd.gotC s 6), .int .i64 (Hd.gotC s 8), .int .i64 (Hd.gotC s 10)] 80)).cell? ⟨w.heap.size, 12, none⟩ = some (.slice none 0 0) := (blk_cell pp 12).trans rfl
      have y0 := blk_frozen pp 0
      have y1 := blk_frozen pp 1
      have y2 := blk_frozen pp 2
      have y3 := blk_frozen pp 3
      have y4 := blk_frozen pp 4
      have y5 := blk_frozen pp 5
      have y6 := blk_frozen pp 6
      have y7 := blk_frozen pp 7
      have y8 := blk_frozen pp 8
      have y9 := blk_frozen pp 9
      have y10 := blk_frozen pp 10
      have y11 := blk_frozen pp 11
      have y12 := blk_frozen pp 12
      have pF := putAll_blk 0 [.int .i64 0, .bool false, .int .i64 0, .bool false, .bool false, .bool false, .bool false, .int .i64 0, .int .i64 0, .slice none 0 0, .slice none 0 0, .slice none 0 0, .slice none 0 0] mz pp (by simp [setAll])
      have GF := putAll_grown (row := none) 0 [.int .i64 0, .bool false, .int .i64 0, .bool false, .bool false, .bool false, .bool false, .int .i64 0, .int .i64 0, .slice none 0 0, .slice none 0 0, .slice none 0 0, .slice none 0 0] (grown_below (BB.trans (((Below.refl w1.heap.size w1).alloc (Nat.le_refl _) (.cells #[.int .i64 (Hd.gotH s).id, .bool (Hd.gotH s).qr, .int .i64 (Hd.gotH s).op, .bool (Hd.gotH s).aa, .bool (Hd.gotH s).tc, .bool (Hd.gotH s).rd, .bool (Hd.gotH s).ra, .int .i64 (Hd.gotH s).z, .int .i64 (Hd.gotH s).rc] 23)).alloc (by simp) (.cells #[.int .i64 (Hd.gotC s 4), .int .i64 (Hd.gotC s 6), .int .i64 (Hd.gotC s 8), .int .i64 (Hd.gotC s 10)] 80) |>.mono BB.size)) none) (Nat.le_refl _)
      simp only [putAll] at pF GF
      have e0 := (blk_cell pF 0).trans rfl
      have e1 := (blk_cell pF 1).trans rfl
      have e2 := (blk_cell pF 2).trans rfl
      have e3 := (blk_cell pF 3).trans rfl
      have e4 := (blk_cell pF 4).trans rfl
      have e5 := (blk_cell pF 5).trans rfl
      have e6 := (blk_cell pF 6).trans rfl
      have e7 := (blk_cell pF 7).trans rfl
      have e8 := (blk_cell pF 8).trans rfl
      have e9 := (blk_cell pF 9).trans rfl
      have e10 := (blk_cell pF 10).trans rfl
      have e11 := (blk_cell pF 11).trans rfl
      have e12 := (blk_cell pF 12).trans rfl
      go_wp2
      exact bodyPost_ret (v := .tuple #[.agg mz, .int .i64 700]) (by simp [results, Try.results25, go_sem, e0, e1, e2, e3, e4, e5, e6, e7, e8, e9, e10, e11, e12]) rfl (post0 s w _ 700 ⟨GF.os, GF.tape, GF.output, GF.size, fun k hk => GF.block k hk (by simp)⟩)
    · have hr := HQ.out
      unfold rGetV at hr
      rw [if_neg h4, if_neg h12] at hr
      have HR := Lib.hid hr
      have hE : Hd.gotE s = 0 := Hd.gotE_yes (by omega)
      have hC := fun k => Hd.gotC_yes (s := s) (by omega) k
      rw [hE, Hd.gotH_yes (by omega), hC, hC, hC, hC] at kg
      clear HQ hr hE hC
      go_enter Try.func25, Try.ntmps25
      go_wp2_with fail
      refine kg.mono ?_
      rintro e w1 ⟨rfl, B1⟩
      have p1 := blk_below pz B1
      have BB := Bp.trans (B1.mono (by omega))
      have hzz : w.heap.size < w1.heap.size := by have := B1.size; omega
      clear kg pz Bp B1 sp
      go_wp2_with fail
      refine wp_loop_rounds 5 ?_
      have B0 : Below w1.heap.size w1 (((w1.alloc (.cells #[.int .i64 (Hd.getH s).id, .bool (Hd.getH s).qr, .int .i64 (Hd.getH s).op, .bool (Hd.getH s).aa, .bool (Hd.getH s).tc, .bool (Hd.getH s).rd, .bool (Hd.getH s).ra, .int .i64 (Hd.getH s).z, .int .i64 (Hd.getH s).rc] 23)).alloc (.cells #[.int .i64 (be2 s 4), .int .i64 (be2 s 6), .int .i64 (be2 s 8), .int .i64 (be2 s 10)] 80)).alloc (.cells #[.int .i64 (Hd.getH s).id, .bool (Hd.getH s).qr, .int .i64 (Hd.getH s).op, .bool (Hd.getH s).aa, .bool (Hd.getH s).tc, .bool (Hd.getH s).rd, .bool (Hd.getH s).ra, .int .i64 (Hd.getH s).z, .int .i64 (Hd.getH s).rc, .slice none 0 0, .slice none 0 0, .slice none 0 0, .slice none 0 0] 27)) := (((Below.refl _ _).alloc (Nat.le_refl _) _).alloc (by simp) _).alloc (by simp; omega) _
      have bc : (((w1.alloc (.cells #[.int .i64 (Hd.getH s).id, .bool (Hd.getH s).qr, .int .i64 (Hd.getH s).op, .bool (Hd.getH s).aa, .bool (Hd.getH s).tc, .bool (Hd.getH s).rd, .bool (Hd.getH s).ra, .int .i64 (Hd.getH s).z, .int .i64 (Hd.getH s).rc] 23)).alloc (.cells #[.int .i64 (be2 s 4), .int .i64 (be2 s 6), .int .i64 (be2 s 8), .int .i64 (be2 s 10)] 80)).alloc (.cells #[.int .i64 (Hd.getH s).id, .bool (Hd.getH s).qr, .int .i64 (Hd.getH s).op, .bool (Hd.getH s).aa, .bool (Hd.getH s).tc, .bool (Hd.getH s).rd, .bool (Hd.getH s).ra, .int .i64 (Hd.getH s).z, .int .i64 (Hd.getH s).rc, .slice none 0 0, .slice none 0 0, .slice none 0 0, .slice none 0 0] 27)).heap[w1.heap.size + 1]? = some (.cells #[.int .i64 (be2 s 4), .int .i64 (be2 s 6), .int .i64 (be2 s 8), .int .i64 (be2 s 10)] 80 (0, 0)) := by
        refine Go.Proofs.YtjklgdpffmaamaaW.PrintWords.blk_alloc ?_ _
        have := blk_new (w1.alloc (.cells #[.int .i64 (Hd.getH s).id, .bool (Hd.getH s).qr, .int .i64 (Hd.getH s).op, .bool (Hd.getH s).aa, .bool (Hd.getH s).tc, .bool (Hd.getH s).rd, .bool (Hd.getH s).ra, .int .i64 (Hd.getH s).z, .int .i64 (Hd.getH s).rc] 23)) (.cells #[.int .i64 (be2 s 4), .int .i64 (be2 s 6), .int .i64 (be2 s 8), .int .i64 (be2 s 10)] 80)
        simpa using this
      have bm : (((w1.alloc (.cells #[.int .i64 (Hd.getH s).id, .bool (Hd.getH s).qr, .int .i64 (Hd.getH s).op, .bool (Hd.getH s).aa, .bool (Hd.getH s).tc, .bool (Hd.getH s).rd, .bool (Hd.getH s).ra, .int .i64 (Hd.getH s).z, .int .i64 (Hd.getH s).rc] 23)).alloc (.cells #[.int .i64 (be2 s 4), .int .i64 (be2 s 6), .int .i64 (be2 s 8), .int .i64 (be2 s 10)] 80)).alloc (.cells #[.int .i64 (Hd.getH s).id, .bool (Hd.getH s).qr, .int .i64 (Hd.getH s).op, .bool (Hd.getH s).aa, .bool (Hd.getH s).tc, .bool (Hd.getH s).rd, .bool (Hd.getH s).ra, .int .i64 (Hd.getH s).z, .int .i64 (Hd.getH s).rc, .slice none 0 0, .slice none 0 0, .slice none 0 0, .slice none 0 0] 27)).heap[w1.heap.size + 1 + 1]? = some (.cells #[.int .i64 (Hd.getH s).id, .bool (Hd.getH s).qr, .int .i64 (Hd.getH s).op, .bool (Hd.getH s).aa, .bool (Hd.getH s).tc, .bool (Hd.getH s).rd, .bool (Hd.getH s).ra, .int .i64 (Hd.getH s).z, .int .i64 (Hd.getH s).rc, .slice none 0 0, .slice none 0 0, .slice none 0 0, .slice none 0 0] 27 (0, 0)) := by
        have := blk_new ((w1.alloc (.cells #[.int .i64 (Hd.getH s).id, .bool (Hd.getH s).qr, .int .i64 (Hd.getH s).op, .bool (Hd.getH s).aa, .bool (Hd.getH s).tc, .bool (Hd.getH s).rd, .bool (Hd.getH s).ra, .int .i64 (Hd.getH s).z, .int .i64 (Hd.getH s).rc] 23)).alloc (.cells #[.int .i64 (be2 s 4), .int .i64 (be2 s 6), .int .i64 (be2 s 8), .int .i64 (be2 s 10)] 80)) (.cells #[.int .i64 (Hd.getH s).id, .bool (Hd.getH s).qr, .int .i64 (Hd.getH s).op, .bool (Hd.getH s).aa, .bool (Hd.getH s).tc, .bool (Hd.getH s).rd, .bool (Hd.getH s).ra, .int .i64 (Hd.getH s).z, .int .i64 (Hd.getH s).rc, .slice none 0 0, .slice none 0 0, .slice none 0 0, .slice none 0 0] 27)
        simpa using this
      have p0 := blk_below p1 B0
      have BB0 := BB.trans (B0.mono BB.size)
      have hcm : w1.heap.size + 1 ≠ w1.heap.size + 1 + 1 := by omega
      have hpm : w.heap.size ≠ w1.heap.size + 1 + 1 := by omega
      have hkm : w.heap.size ≤ w1.heap.size + 1 + 1 := by omega
      clear p1 BB B0 hzz
      generalize (((w1.alloc (.cells #[.int .i64 (Hd.getH s).id, .bool (Hd.getH s).qr, .int .i64 (Hd.getH s).op, .bool (Hd.getH s).aa, .bool (Hd.getH s).tc, .bool (Hd.getH s).rd, .bool (Hd.getH s).ra, .int .i64 (Hd.getH s).z, .int .i64 (Hd.getH s).rc] 23)).alloc (.cells #[.int .i64 (be2 s 4), .int .i64 (be2 s 6), .int .i64 (be2 s 8), .int .i64 (be2 s 10)] 80)).alloc (.cells #[.int .i64 (Hd.getH s).id, .bool (Hd.getH s).qr, .int .i64 (Hd.getH s).op, .bool (Hd.getH s).aa, .bool (Hd.getH s).tc, .bool (Hd.getH s).rd, .bool (Hd.getH s).ra, .int .i64 (Hd.getH s).z, .int .i64 (Hd.getH s).rc, .slice none 0 0, .slice none 0 0, .slice none 0 0, .slice none 0 0] 27)) = W0 at *
      generalize w1.heap.size + 1 + 1 = km at *
      generalize w1.heap.size + 1 = kc at *
      have bd0 := be2_bd s 4
      have cx0 : W0.cell? ⟨kc, 0, none⟩ = some (.int .i64 (be2 s 4)) := (blk_cell bc 0).trans rfl
      rw [rounds_succ]
      have hr0 := HR.out
      by_cases big0 : 64 < be2 s 4
      · have hr : got0 700 = r := by unfold many4 at hr0; rw [if_pos big0] at hr0; exact Option.some.inj hr0
        subst hr
        clear hr0
        have bq : decide ((64 : Int) < be2 s 4) = true := decide_eq_true big0
        have x0 : W0.cell? ⟨w.heap.size, 0, none⟩ = some (.int .i64 0) := (blk_cell p0 0).trans rfl
        have x1 : W0.cell? ⟨w.heap.size, 1, none⟩ = some (.bool false) := (blk_cell p0 1).trans rfl
        have x2 : W0.cell? ⟨w.heap.size, 2, none⟩ = some (.int .i64 0) := (blk_cell p0 2).trans rfl
        have x3 : W0.cell? ⟨w.heap.size, 3, none⟩ = some (.bool false) := (blk_cell p0 3).trans rfl
        have x4 : W0.cell? ⟨w.heap.size, 4, none⟩ = some (.bool false) := (blk_cell p0 4).trans rfl
        have x5 : W0.cell? ⟨w.heap.size, 5, none⟩ = some (.bool false) := (blk_cell p0 5).trans rfl
        have x6 : W0.cell? ⟨w.heap.size, 6, none⟩ = some (.bool false) := (blk_cell p0 6).trans rfl
        have x7 : W0.cell? ⟨w.heap.size, 7, none⟩ = some (.int .i64 0) := (blk_cell p0 7).trans rfl
        have x8 : W0.cell? ⟨w.heap.size, 8, none⟩ = some (.int .i64 0) := (blk_cell p0 8).trans rfl
        have x9 : W0.cell? ⟨w.heap.size, 9, none⟩ = some (.slice none 0 0) := (blk_cell p0 9).trans rfl
        have x10 : W0.cell? ⟨w.heap.size, 10, none⟩ = some (.slice none 0 0) := (blk_cell p0 10).trans rfl
        have x11 : W0.cell? ⟨w.heap.size, 11, none⟩ = some (.slice none 0 0) := (blk_cell p0 11).trans rfl
        have x12 : W0.cell? ⟨w.heap.size, 12, none⟩ = some (.slice none 0 0) := (blk_cell p0 12).trans rfl
        have y0 := blk_frozen p0 0
        have y1 := blk_frozen p0 1
        have y2 := blk_frozen p0 2
        have y3 := blk_frozen p0 3
        have y4 := blk_frozen p0 4
        have y5 := blk_frozen p0 5
        have y6 := blk_frozen p0 6
        have y7 := blk_frozen p0 7
        have y8 := blk_frozen p0 8
        have y9 := blk_frozen p0 9
        have y10 := blk_frozen p0 10
        have y11 := blk_frozen p0 11
        have y12 := blk_frozen p0 12
        have pF := putAll_blk 0 [.int .i64 0, .bool false, .int .i64 0, .bool false, .bool false, .bool false, .bool false, .int .i64 0, .int .i64 0, .slice none 0 0, .slice none 0 0, .slice none 0 0, .slice none 0 0] #[.int .i64 0, .bool false, .int .i64 0, .bool false, .bool false, .bool false, .bool false, .int .i64 0, .int .i64 0, .slice none 0 0, .slice none 0 0, .slice none 0 0, .slice none 0 0] p0 (by simp [setAll])
        have GF := putAll_grown (row := none) 0 [.int .i64 0, .bool false, .int .i64 0, .bool false, .bool false, .bool false, .bool false, .int .i64 0, .int .i64 0, .slice none 0 0, .slice none 0 0, .slice none 0 0, .slice none 0 0] (grown_below BB0 none) (Nat.le_refl _)
        simp only [putAll] at pF GF
        have e0 := (blk_cell pF 0).trans rfl
        have e1 := (blk_cell pF 1).trans rfl
        have e2 := (blk_cell pF 2).trans rfl
        have e3 := (blk_cell pF 3).trans rfl
        have e4 := (blk_cell pF 4).trans rfl
        have e5 := (blk_cell pF 5).trans rfl
        have e6 := (blk_cell pF 6).trans rfl
        have e7 := (blk_cell pF 7).trans rfl
        have e8 := (blk_cell pF 8).trans rfl
        have e9 := (blk_cell pF 9).trans rfl
        have e10 := (blk_cell pF 10).trans rfl
        have e11 := (blk_cell pF 11).trans rfl
        have e12 := (blk_cell pF 12).trans rfl
        go_wp2_with fail
        exact bodyPost_ret (v := .tuple #[.agg #[.int .i64 0, .bool false, .int .i64 0, .bool false, .bool false, .bool false, .bool false, .int .i64 0, .int .i64 0, .slice none 0 0, .slice none 0 0, .slice none 0 0, .slice none 0 0], .int .i64 700]) (by simp [results, Try.results25, go_sem, e0, e1, e2, e3, e4, e5, e6, e7, e8, e9, e10, e11, e12]) rfl (post0 s w _ 700 ⟨GF.os, GF.tape, GF.output, GF.size, fun k hk => GF.block k hk (by simp)⟩)
      have hs0 := hr0
      unfold many4 at hs0
      rw [if_neg big0] at hs0
      obtain ⟨X0, hX0⟩ := andThen_is hs0
      have HS0 := Lib.hid hs0
      have HX0 := Lib.hid hX0
      clear hr0 hs0 hX0 HR
      have bq0 : decide ((64 : Int) < be2 s 4) = false := decide_eq_false big0
      go_wp2_with fail
      obtain ⟨n0, hn0⟩ : ∃ n : Nat, be2 s 4 = (n : Int) := ⟨(be2 s 4).toNat, by omega⟩
      have hl0 : n0 ≤ 64 := by omega
      have HN0 := Lib.hid hn0
      clear hn0
      go_loopg [8, 10] (n0 + 1) (fun kk v8 v10 wr => ∃ (m : Nat) (a : Int) (acc : List Qn) (vx : Value), v8 = .int .i64 a ∧ v10 = .int .i64 (((n0 - m : Nat)) : Int) ∧ kk = m + 1 ∧ m ≤ n0 ∧ acc.length + m = n0 ∧ rQ k s m a acc = some X0 ∧ wr.heap[km]? = some (.cells #[.int .i64 (Hd.getH s).id, .bool (Hd.getH s).qr, .int .i64 (Hd.getH s).op, .bool (Hd.getH s).aa, .bool (Hd.getH s).tc, .bool (Hd.getH s).rd, .bool (Hd.getH s).ra, .int .i64 (Hd.getH s).z, .int .i64 (Hd.getH s).rc, vx, .slice none 0 0, .slice none 0 0, .slice none 0 0] 27 (0, 0)) ∧ wr.ownsRow W0.heap.size 40 3 vx acc.length (cellsQ acc) ∧ W0.grownBy wr (some km))
      case atStart => exact ⟨n0, 12, [], .slice none 0 0, rfl, by simp, rfl, Nat.le_refl _, by simp, by have := HX0.out; rw [HN0.out, Int.toNat_natCast] at this; exact this, bm, own_nil _ _ _ _, ⟨rfl, rfl, rfl, Nat.le_refl _, fun _ _ _ => rfl⟩⟩
      case round =>
        obtain ⟨m, a, acc, vx, rfl, rfl, hkk, hmn, hlen, hq, bmr, hown, hG⟩ := hrel
        have HQ2 := Lib.hid hq
        clear hq
        have hsz := hG.size
        have bcr := blk_grown bc hG (by intro q; injection q with q; exact hcm q)
        have p0r := blk_grown p0 hG (by intro q; injection q with q; exact hpm q)
        have BR : Below w.heap.size w wr := BB0.grown hG BB0.size (fun k e => by injection e with e; omega)
        have cj : wr.cell? ⟨kc, 0, none⟩ = some (.int .i64 (be2 s 4)) := (blk_cell bcr 0).trans rfl
        have hmgt : w.heap.size ≠ km := hpm
        cases m with
        | succ m =>
          have q0 : decide ((((n0 - (m + 1) : Nat)) : Int) < be2 s 4) = true := by rw [HN0.out]; simp; omega
          have hq := HQ2.out
          clear HQ2
          unfold rQ at hq
          obtain ⟨x, hx, hq⟩ := Option.bind_eq_some_iff.1 hq
          obtain ⟨xn, xt, xc, xto, xok⟩ := x
          have kq := PRf.wimpleref4_question.calls k s a xn xt xc xto xok wr hx
          have HQ3 := Lib.hid hq
          clear hq hx
          go_wp2_with fail
          refine kq.mono ?_
          rintro e w2 ⟨rfl, B2⟩
          clear kq
          go_upto_region 18 with (fail)
          have Bx : Below w2.heap.size w2 (w2.alloc (.cells #[.string xn, .int .i64 xt, .int .i64 xc] 40)) := (Below.refl _ _).alloc (Nat.le_refl _) _
          have bq2 := blk_new w2 (.cells #[.string xn, .int .i64 xt, .int .i64 xc] 40)
          have bm2 := blk_below (blk_below bmr B2) Bx
          have p02 := blk_below (blk_below p0r B2) Bx
          have BR2 := (BR.trans (B2.mono BR.size)).trans (Bx.mono (BR.trans (B2.mono BR.size)).size)
          have own2 := Sl.own_below (Sl.own_below hown B2) Bx
          have G2 := grown_alloc' (hG.trans (grown_below B2 (some km))) (.cells #[.string xn, .int .i64 xt, .int .i64 xc] 40)
          have s2 := G2.size
          clear bmr p0r BR hown hG bcr cj B2 Bx hsz
          generalize w2.alloc (.cells #[.string xn, .int .i64 xt, .int .i64 xc] 40) = w3 at *
          generalize w2.heap.size = gq at *
          have cq0 : w3.cell? ⟨gq, 0, none⟩ = some (.string xn) := (blk_cell bq2 0).trans rfl
          have cq1 : w3.cell? ⟨gq, 1, none⟩ = some (.int .i64 xt) := (blk_cell bq2 1).trans rfl
          have cq2 : w3.cell? ⟨gq, 2, none⟩ = some (.int .i64 xc) := (blk_cell bq2 2).trans rfl
          cases xok with
          | false =>
            have hr : got0 700 = r := andThen_none (by rw [HX0.out]; have := HQ3.out; simp at this; rw [← this]) HS0.out
            subst hr
            have x0 : w3.cell? ⟨w.heap.size, 0, none⟩ = some (.int .i64 0) := (blk_cell p02 0).trans rfl
            have x1 : w3.cell? ⟨w.heap.size, 1, none⟩ = some (.bool false) := (blk_cell p02 1).trans rfl
            have x2 : w3.cell? ⟨w.heap.size, 2, none⟩ = some (.int .i64 0) := (blk_cell p02 2).trans rfl
            have x3 : w3.cell? ⟨w.heap.size, 3, none⟩ = some (.bool false) := (blk_cell p02 3).trans rfl
            have x4 : w3.cell? ⟨w.heap.size, 4, none⟩ = some (.bool false) := (blk_cell p02 4).trans rfl
            have x5 : w3.cell? ⟨w.heap.size, 5, none⟩ = some (.bool false) := (blk_cell p02 5).trans rfl
            have x6 : w3.cell? ⟨w.heap.size, 6, none⟩ = some (.bool false) := (blk_cell p02 6).trans rfl
            have x7 : w3.cell? ⟨w.heap.size, 7, none⟩ = some (.int .i64 0) := (blk_cell p02 7).trans rfl
            have x8 : w3.cell? ⟨w.heap.size, 8, none⟩ = some (.int .i64 0) := (blk_cell p02 8).trans rfl
            have x9 : w3.cell? ⟨w.heap.size, 9, none⟩ = some (.slice none 0 0) := (blk_cell p02 9).trans rfl
            have x10 : w3.cell? ⟨w.heap.size, 10, none⟩ = some (.slice none 0 0) := (blk_cell p02 10).trans rfl
            have x11 : w3.cell? ⟨w.heap.size, 11, none⟩ = some (.slice none 0 0) := (blk_cell p02 11).trans rfl
            have x12 : w3.cell? ⟨w.heap.size, 12, none⟩ = some (.slice none 0 0) := (blk_cell p02 12).trans rfl
            have y0 := blk_frozen p02 0
            have y1 := blk_frozen p02 1
            have y2 := blk_frozen p02 2
            have y3 := blk_frozen p02 3
            have y4 := blk_frozen p02 4
            have y5 := blk_frozen p02 5
            have y6 := blk_frozen p02 6
            have y7 := blk_frozen p02 7
            have y8 := blk_frozen p02 8
            have y9 := blk_frozen p02 9
            have y10 := blk_frozen p02 10
            have y11 := blk_frozen p02 11
            have y12 := blk_frozen p02 12
            have pF := putAll_blk 0 [.int .i64 0, .bool false, .int .i64 0, .bool false, .bool false, .bool false, .bool false, .int .i64 0, .int .i64 0, .slice none 0 0, .slice none 0 0, .slice none 0 0, .slice none 0 0] #[.int .i64 0, .bool false, .int .i64 0, .bool false, .bool false, .bool false, .bool false, .int .i64 0, .int .i64 0, .slice none 0 0, .slice none 0 0, .slice none 0 0, .slice none 0 0] p02 (by simp [setAll])
            have GF := putAll_grown (row := none) 0 [.int .i64 0, .bool false, .int .i64 0, .bool false, .bool false, .bool false, .bool false, .int .i64 0, .int .i64 0, .slice none 0 0, .slice none 0 0, .slice none 0 0, .slice none 0 0] (grown_below BR2 none) (Nat.le_refl _)
            simp only [putAll] at pF GF
            have e0 := (blk_cell pF 0).trans rfl
            have e1 := (blk_cell pF 1).trans rfl
            have e2 := (blk_cell pF 2).trans rfl
            have e3 := (blk_cell pF 3).trans rfl
            have e4 := (blk_cell pF 4).trans rfl
            have e5 := (blk_cell pF 5).trans rfl
            have e6 := (blk_cell pF 6).trans rfl
            have e7 := (blk_cell pF 7).trans rfl
            have e8 := (blk_cell pF 8).trans rfl
            have e9 := (blk_cell pF 9).trans rfl
            have e10 := (blk_cell pF 10).trans rfl
            have e11 := (blk_cell pF 11).trans rfl
            have e12 := (blk_cell pF 12).trans rfl
            go_wp2_with fail
            exact bodyPost_ret (v := .tuple #[.agg #[.int .i64 0, .bool false, .int .i64 0, .bool false, .bool false, .bool false, .bool false, .int .i64 0, .int .i64 0, .slice none 0 0, .slice none 0 0, .slice none 0 0, .slice none 0 0], .int .i64 700]) (by simp [results, Try.results25, go_sem, e0, e1, e2, e3, e4, e5, e6, e7, e8, e9, e10, e11, e12]) rfl (post0 s w _ 700 ⟨GF.os, GF.tape, GF.output, GF.size, fun k hk => GF.block k hk (by simp)⟩)
          | true =>
            have hq3 := HQ3.out
            simp only [if_true] at hq3
            have HQ4 := Lib.hid hq3
            clear hq3 HQ3 p02 BR2
            obtain ⟨Ax, cx, rfl⟩ := Sl.own_slice own2
            have cb : w3.cell? ⟨km, 9, none⟩ = some (.slice Ax acc.length cx) := (blk_cell bm2 9).trans rfl
            go_wp2_with (at_builtin; refine app_elem W0.heap.size rfl _ _ 24 40 (.agg #[.string ⟨#[]⟩, .int .i64 0, .int .i64 0]) 3 32 rfl Try.underlying24 info_Q rfl (by decide) own2 #[.string xn, .int .i64 xt, .int .i64 xc] rfl rfl rfl ?h1 s2 ?hn ?hl ?_)
            case h1 => exact ⟨rfl, rfl, rfl⟩
            case hn => omega
            case hl => omega
            intro v4 w4 own4 g4
            have Ba : ∀ (Z : World) (o : Obj), Below Z.heap.size Z (Z.alloc o) := fun Z o => (Below.refl _ _).alloc (Nat.le_refl _) o
            have own3a := Sl.own_below own2 (Ba _ (.cells #[.string xn, .int .i64 xt, .int .i64 xc] 40))
            have bm4 := blk_grown (blk_below bm2 (Ba _ (.cells #[.string xn, .int .i64 xt, .int .i64 xc] 40))) g4 (own_ne own3a (blk_below bm2 (Ba _ (.cells #[.string xn, .int .i64 xt, .int .i64 xc] 40))) (by decide))
            have G4 := grown_own (grown_alloc' G2 (.cells #[.string xn, .int .i64 xt, .int .i64 xc] 40)) g4 (fun b e => Sl.own_base own2 b e)
            obtain ⟨A4, c4, rfl⟩ := Sl.own_slice own4
            have c44 : w4.cell? ⟨km, 9, none⟩ = some (.slice Ax acc.length cx) := (blk_cell bm4 9).trans rfl
            have f44 := blk_frozen bm4 9
            have bm5 := blk_put bm4 9 (.slice A4 (acc.length + 1) c4) rfl
            have own5 := own_setCell (p := ⟨km, 9, none⟩) own4 (own_ne own4 bm4 (by decide)) (.slice A4 (acc.length + 1) c4)
            have G5 := grown_set' G4 9 (.slice A4 (acc.length + 1) c4)
            clear own2 own3a bm2 G2 s2 cb Ba g4 bm4 own4 G4 bq2
            go_wp2_with fail
            go_roundg (m + 1)
            case measure => omega
            case rel =>
              refine ⟨m, xto, acc ++ [(⟨xn, xt, xc⟩ : Qn)], _, rfl, ?_, rfl, by omega, by simp; omega, HQ4.out, bm5, ?_, G5⟩
              · have e1 : ((n0 - (m + 1) : Nat) : Int) + 1 = ((n0 - m : Nat) : Int) := by omega
                first | rw [e1] | (congr 1)
              · rw [List.length_append, cellsQ_app]; simpa [cellsQ] using own5
        | zero =>
          rw [Nat.sub_zero]
          have q0 : decide ((n0 : Int) < be2 s 4) = false := by rw [HN0.out]; simp
          have hq := HQ2.out
          clear HQ2
          unfold rQ at hq
          have hs : _ = some r := andThen_some (by rw [HX0.out]; exact hq.symm) HS0.out
          dsimp only at hs
          have HR0 := Lib.hid hs
          clear hs hq HX0 HS0 hkk hmn
          go_wp2_with fail
          obtain ⟨A0, c0, rfl⟩ := Sl.own_slice hown
          have ow0 := hown
          clear hown
          have lt0 := Lib.hid (own_lt ow0)
          obtain ⟨W1, hW1⟩ : ∃ Z : World, Z = wr := ⟨_, rfl⟩
          subst hW1
          skip
          obtain ⟨acc0, ha0⟩ : ∃ z, z = acc := ⟨_, rfl⟩
          subst ha0
          obtain ⟨at0, hb0⟩ : ∃ z, z = a := ⟨_, rfl⟩
          subst hb0
          obtain ⟨bm0_, bc0_, p00_, BB0_⟩ := And.intro bmr (And.intro bcr (And.intro p0r BR))
          clear bmr bcr p0r BR cj
          have bd1 := be2_bd s 6
          have cx1 : W1.cell? ⟨kc, 1, none⟩ = some (.int .i64 (be2 s 6)) := (blk_cell bc0_ 1).trans rfl
          rw [rounds_succ]
          have hr1 := HR0.out
          by_cases big1 : 64 < be2 s 6
          · have hr : got0 700 = r := by unfold many4 at hr1; rw [if_pos big1] at hr1; exact Option.some.inj hr1
            subst hr
            clear hr1
            have bq : decide ((64 : Int) < be2 s 6) = true := decide_eq_true big1
            have x0 : W1.cell? ⟨w.heap.size, 0, none⟩ = some (.int .i64 0) := (blk_cell p00_ 0).trans rfl
            have x1 : W1.cell? ⟨w.heap.size, 1, none⟩ = some (.bool false) := (blk_cell p00_ 1).trans rfl
            have x2 : W1.cell? ⟨w.heap.size, 2, none⟩ = some (.int .i64 0) := (blk_cell p00_ 2).trans rfl
            have x3 : W1.cell? ⟨w.heap.size, 3, none⟩ = some (.bool false) := (blk_cell p00_ 3).trans rfl
            have x4 : W1.cell? ⟨w.heap.size, 4, none⟩ = some (.bool false) := (blk_cell p00_ 4).trans rfl
            have x5 : W1.cell? ⟨w.heap.size, 5, none⟩ = some (.bool false) := (blk_cell p00_ 5).trans rfl
            have x6 : W1.cell? ⟨w.heap.size, 6, none⟩ = some (.bool false) := (blk_cell p00_ 6).trans rfl
            have x7 : W1.cell? ⟨w.heap.size, 7, none⟩ = some (.int .i64 0) := (blk_cell p00_ 7).trans rfl
            have x8 : W1.cell? ⟨w.heap.size, 8, none⟩ = some (.int .i64 0) := (blk_cell p00_ 8).trans rfl
            have x9 : W1.cell? ⟨w.heap.size, 9, none⟩ = some (.slice none 0 0) := (blk_cell p00_ 9).trans rfl
            have x10 : W1.cell? ⟨w.heap.size, 10, none⟩ = some (.slice none 0 0) := (blk_cell p00_ 10).trans rfl
            have x11 : W1.cell? ⟨w.heap.size, 11, none⟩ = some (.slice none 0 0) := (blk_cell p00_ 11).trans rfl
            have x12 : W1.cell? ⟨w.heap.size, 12, none⟩ = some (.slice none 0 0) := (blk_cell p00_ 12).trans rfl
            have y0 := blk_frozen p00_ 0
            have y1 := blk_frozen p00_ 1
            have y2 := blk_frozen p00_ 2
            have y3 := blk_frozen p00_ 3
            have y4 := blk_frozen p00_ 4
            have y5 := blk_frozen p00_ 5
            have y6 := blk_frozen p00_ 6
            have y7 := blk_frozen p00_ 7
            have y8 := blk_frozen p00_ 8
            have y9 := blk_frozen p00_ 9
            have y10 := blk_frozen p00_ 10
            have y11 := blk_frozen p00_ 11
            have y12 := blk_frozen p00_ 12
            have pF := putAll_blk 0 [.int .i64 0, .bool false, .int .i64 0, .bool false, .bool false, .bool false, .bool false, .int .i64 0, .int .i64 0, .slice none 0 0, .slice none 0 0, .slice none 0 0, .slice none 0 0] #[.int .i64 0, .bool false, .int .i64 0, .bool false, .bool false, .bool false, .bool false, .int .i64 0, .int .i64 0, .slice none 0 0, .slice none 0 0, .slice none 0 0, .slice none 0 0] p00_ (by simp [setAll])
            have GF := putAll_grown (row := none) 0 [.int .i64 0, .bool false, .int .i64 0, .bool false, .bool false, .bool false, .bool false, .int .i64 0, .int .i64 0, .slice none 0 0, .slice none 0 0, .slice none 0 0, .slice none 0 0] (grown_below BB0_ none) (Nat.le_refl _)
            simp only [putAll] at pF GF
            have e0 := (blk_cell pF 0).trans rfl
            have e1 := (blk_cell pF 1).trans rfl
            have e2 := (blk_cell pF 2).trans rfl
            have e3 := (blk_cell pF 3).trans rfl
            have e4 := (blk_cell pF 4).trans rfl
            have e5 := (blk_cell pF 5).trans rfl
            have e6 := (blk_cell pF 6).trans rfl
            have e7 := (blk_cell pF 7).trans rfl
            have e8 := (blk_cell pF 8).trans rfl
            have e9 := (blk_cell pF 9).trans rfl
            have e10 := (blk_cell pF 10).trans rfl
            have e11 := (blk_cell pF 11).trans rfl
            have e12 := (blk_cell pF 12).trans rfl
            go_wp2_with fail
            exact bodyPost_ret (v := .tuple #[.agg #[.int .i64 0, .bool false, .int .i64 0, .bool false, .bool false, .bool false, .bool false, .int .i64 0, .int .i64 0, .slice none 0 0, .slice none 0 0, .slice none 0 0, .slice none 0 0], .int .i64 700]) (by simp [results, Try.results25, go_sem, e0, e1, e2, e3, e4, e5, e6, e7, e8, e9, e10, e11, e12]) rfl (post0 s w _ 700 ⟨GF.os, GF.tape, GF.output, GF.size, fun k hk => GF.block k hk (by simp)⟩)
          have hs1 := hr1
          unfold many4 at hs1
          rw [if_neg big1] at hs1
          obtain ⟨X1, hX1⟩ := andThen_is hs1
          have HS1 := Lib.hid hs1
          have HX1 := Lib.hid hX1
          clear hr1 hs1 hX1 
          have bq1 : decide ((64 : Int) < be2 s 6) = false := decide_eq_false big1
          go_wp2_with fail
          obtain ⟨n1, hn1⟩ : ∃ n : Nat, be2 s 6 = (n : Int) := ⟨(be2 s 6).toNat, by omega⟩
          have hl1 : n1 ≤ 64 := by omega
          have HN1 := Lib.hid hn1
          clear hn1
          go_loopg [8, 10] (n1 + 1) (fun kk v8 v10 wr => ∃ (m : Nat) (a : Int) (acc : List Rr) (vx : Value), v8 = .int .i64 a ∧ v10 = .int .i64 (((n1 - m : Nat)) : Int) ∧ kk = m + 1 ∧ m ≤ n1 ∧ acc.length + m = n1 ∧ rR k s m a acc = some X1 ∧ wr.heap[km]? = some (.cells #[.int .i64 (Hd.getH s).id, .bool (Hd.getH s).qr, .int .i64 (Hd.getH s).op, .bool (Hd.getH s).aa, .bool (Hd.getH s).tc, .bool (Hd.getH s).rd, .bool (Hd.getH s).ra, .int .i64 (Hd.getH s).z, .int .i64 (Hd.getH s).rc, .slice A0 acc0.length c0, vx, .slice none 0 0, .slice none 0 0] 27 (0, 0)) ∧ wr.ownsRow W1.heap.size 53 5 vx acc.length (cellsR acc) ∧ W1.grownBy wr (some km))
          case atStart => exact ⟨n1, at0, [], .slice none 0 0, rfl, by simp, rfl, Nat.le_refl _, by simp, by have := HX1.out; rw [HN1.out, Int.toNat_natCast] at this; exact this, bm0_, own_nil _ _ _ _, ⟨rfl, rfl, rfl, Nat.le_refl _, fun _ _ _ => rfl⟩⟩
          case round =>
            obtain ⟨m, a, acc, vx, rfl, rfl, hkk, hmn, hlen, hq, bmr, hown, hG⟩ := hrel
            have HQ2 := Lib.hid hq
            clear hq
            have hsz := hG.size
            have bcr := blk_grown bc0_ hG (by intro q; injection q with q; exact hcm q)
            have p0r := blk_grown p00_ hG (by intro q; injection q with q; exact hpm q)
            have BR : Below w.heap.size w wr := BB0_.grown hG BB0_.size (fun k e => by injection e with e; omega)
            have cj : wr.cell? ⟨kc, 1, none⟩ = some (.int .i64 (be2 s 6)) := (blk_cell bcr 1).trans rfl
            have hmgt : w.heap.size ≠ km := hpm
            cases m with
            | succ m =>
              have q0 : decide ((((n1 - (m + 1) : Nat)) : Int) < be2 s 6) = true := by rw [HN1.out]; simp; omega
              have hq := HQ2.out
              clear HQ2
              unfold rR at hq
              obtain ⟨x, hx, hq⟩ := Option.bind_eq_some_iff.1 hq
              obtain ⟨xn, xt, xc, xl, xd, xto, xok⟩ := x
              have kq := PRf.wimpleref4_record.calls k s a xn xt xc xl xd xto xok wr hx
              have HQ3 := Lib.hid hq
              clear hq hx
              go_wp2_with fail
              refine kq.mono ?_
              rintro e w2 ⟨rfl, B2⟩
              clear kq
              go_upto_region 23 with (fail)
              have Bx : Below w2.heap.size w2 (w2.alloc (.cells #[.string xn, .int .i64 xt, .int .i64 xc, .int .i64 xl, .string xd] 53)) := (Below.refl _ _).alloc (Nat.le_refl _) _
              have bq2 := blk_new w2 (.cells #[.string xn, .int .i64 xt, .int .i64 xc, .int .i64 xl, .string xd] 53)
              have bm2 := blk_below (blk_below bmr B2) Bx
              have p02 := blk_below (blk_below p0r B2) Bx
              have BR2 := (BR.trans (B2.mono BR.size)).trans (Bx.mono (BR.trans (B2.mono BR.size)).size)
              have own2 := Sl.own_below (Sl.own_below hown B2) Bx
              have G2 := grown_alloc' (hG.trans (grown_below B2 (some km))) (.cells #[.string xn, .int .i64 xt, .int .i64 xc, .int .i64 xl, .string xd] 53)
              have s2 := G2.size
              clear bmr p0r BR hown hG bcr cj B2 Bx hsz
              generalize w2.alloc (.cells #[.string xn, .int .i64 xt, .int .i64 xc, .int .i64 xl, .string xd] 53) = w3 at *
              generalize w2.heap.size = gq at *
              have cq0 : w3.cell? ⟨gq, 0, none⟩ = some (.string xn) := (blk_cell bq2 0).trans rfl
              have cq1 : w3.cell? ⟨gq, 1, none⟩ = some (.int .i64 xt) := (blk_cell bq2 1).trans rfl
              have cq2 : w3.cell? ⟨gq, 2, none⟩ = some (.int .i64 xc) := (blk_cell bq2 2).trans rfl
              have cq3 : w3.cell? ⟨gq, 3, none⟩ = some (.int .i64 xl) := (blk_cell bq2 3).trans rfl
              have cq4 : w3.cell? ⟨gq, 4, none⟩ = some (.string xd) := (blk_cell bq2 4).trans rfl
              cases xok with
              | false =>
                have hr : got0 700 = r := andThen_none (by rw [HX1.out]; have := HQ3.out; simp at this; rw [← this]) HS1.out
                subst hr
                have x0 : w3.cell? ⟨w.heap.size, 0, none⟩ = some (.int .i64 0) := (blk_cell p02 0).trans rfl
                have x1 : w3.cell? ⟨w.heap.size, 1, none⟩ = some (.bool false) := (blk_cell p02 1).trans rfl
                have x2 : w3.cell? ⟨w.heap.size, 2, none⟩ = some (.int .i64 0) := (blk_cell p02 2).trans rfl
                have x3 : w3.cell? ⟨w.heap.size, 3, none⟩ = some (.bool false) := (blk_cell p02 3).trans rfl
                have x4 : w3.cell? ⟨w.heap.size, 4, none⟩ = some (.bool false) := (blk_cell p02 4).trans rfl
                have x5 : w3.cell? ⟨w.heap.size, 5, none⟩ = some (.bool false) := (blk_cell p02 5).trans rfl
                have x6 : w3.cell? ⟨w.heap.size, 6, none⟩ = some (.bool false) := (blk_cell p02 6).trans rfl
                have x7 : w3.cell? ⟨w.heap.size, 7, none⟩ = some (.int .i64 0) := (blk_cell p02 7).trans rfl
                have x8 : w3.cell? ⟨w.heap.size, 8, none⟩ = some (.int .i64 0) := (blk_cell p02 8).trans rfl
                have x9 : w3.cell? ⟨w.heap.size, 9, none⟩ = some (.slice none 0 0) := (blk_cell p02 9).trans rfl
                have x10 : w3.cell? ⟨w.heap.size, 10, none⟩ = some (.slice none 0 0) := (blk_cell p02 10).trans rfl
                have x11 : w3.cell? ⟨w.heap.size, 11, none⟩ = some (.slice none 0 0) := (blk_cell p02 11).trans rfl
                have x12 : w3.cell? ⟨w.heap.size, 12, none⟩ = some (.slice none 0 0) := (blk_cell p02 12).trans rfl
                have y0 := blk_frozen p02 0
                have y1 := blk_frozen p02 1
                have y2 := blk_frozen p02 2
                have y3 := blk_frozen p02 3
                have y4 := blk_frozen p02 4
                have y5 := blk_frozen p02 5
                have y6 := blk_frozen p02 6
                have y7 := blk_frozen p02 7
                have y8 := blk_frozen p02 8
                have y9 := blk_frozen p02 9
                have y10 := blk_frozen p02 10
                have y11 := blk_frozen p02 11
                have y12 := blk_frozen p02 12
                have pF := putAll_blk 0 [.int .i64 0, .bool false, .int .i64 0, .bool false, .bool false, .bool false, .bool false, .int .i64 0, .int .i64 0, .slice none 0 0, .slice none 0 0, .slice none 0 0, .slice none 0 0] #[.int .i64 0, .bool false, .int .i64 0, .bool false, .bool false, .bool false, .bool false, .int .i64 0, .int .i64 0, .slice none 0 0, .slice none 0 0, .slice none 0 0, .slice none 0 0] p02 (by simp [setAll])
                have GF := putAll_grown (row := none) 0 [.int .i64 0, .bool false, .int .i64 0, .bool false, .bool false, .bool false, .bool false, .int .i64 0, .int .i64 0, .slice none 0 0, .slice none 0 0, .slice none 0 0, .slice none 0 0] (grown_below BR2 none) (Nat.le_refl _)
                simp only [putAll] at pF GF
                have e0 := (blk_cell pF 0).trans rfl
                have e1 := (blk_cell pF 1).trans rfl
                have e2 := (blk_cell pF 2).trans rfl
                have e3 := (blk_cell pF 3).trans rfl
                have e4 := (blk_cell pF 4).trans rfl
                have e5 := (blk_cell pF 5).trans rfl
                have e6 := (blk_cell pF 6).trans rfl
                have e7 := (blk_cell pF 7).trans rfl
                have e8 := (blk_cell pF 8).trans rfl
                have e9 := (blk_cell pF 9).trans rfl
                have e10 := (blk_cell pF 10).trans rfl
                have e11 := (blk_cell pF 11).trans rfl
                have e12 := (blk_cell pF 12).trans rfl
                go_wp2_with fail
                exact bodyPost_ret (v := .tuple #[.agg #[.int .i64 0, .bool false, .int .i64 0, .bool false, .bool false, .bool false, .bool false, .int .i64 0, .int .i64 0, .slice none 0 0, .slice none 0 0, .slice none 0 0, .slice none 0 0], .int .i64 700]) (by simp [results, Try.results25, go_sem, e0, e1, e2, e3, e4, e5, e6, e7, e8, e9, e10, e11, e12]) rfl (post0 s w _ 700 ⟨GF.os, GF.tape, GF.output, GF.size, fun k hk => GF.block k hk (by simp)⟩)
              | true =>
                have hq3 := HQ3.out
                simp only [if_true] at hq3
                have HQ4 := Lib.hid hq3
                clear hq3 HQ3 p02 BR2
                obtain ⟨Ax, cx, rfl⟩ := Sl.own_slice own2
                have cb : w3.cell? ⟨km, 10, none⟩ = some (.slice Ax acc.length cx) := (blk_cell bm2 10).trans rfl
                go_wp2_with (at_builtin; refine app_elem W1.heap.size rfl _ _ 25 53 (.agg #[.string ⟨#[]⟩, .int .i64 0, .int .i64 0, .int .i64 0, .string ⟨#[]⟩]) 5 56 rfl Try.underlying25 info_R rfl (by decide) own2 #[.string xn, .int .i64 xt, .int .i64 xc, .int .i64 xl, .string xd] rfl rfl rfl ?h1 s2 ?hn ?hl ?_)
                case h1 => exact ⟨rfl, rfl, rfl, rfl, rfl⟩
                case hn => omega
                case hl => omega
                intro v4 w4 own4 g4
                have Ba : ∀ (Z : World) (o : Obj), Below Z.heap.size Z (Z.alloc o) := fun Z o => (Below.refl _ _).alloc (Nat.le_refl _) o
                have own3a := Sl.own_below own2 (Ba _ (.cells #[.string xn, .int .i64 xt, .int .i64 xc, .int .i64 xl, .string xd] 53))
                have bm4 := blk_grown (blk_below bm2 (Ba _ (.cells #[.string xn, .int .i64 xt, .int .i64 xc, .int .i64 xl, .string xd] 53))) g4 (own_ne own3a (blk_below bm2 (Ba _ (.cells #[.string xn, .int .i64 xt, .int .i64 xc, .int .i64 xl, .string xd] 53))) (by decide))
                have G4 := grown_own (grown_alloc' G2 (.cells #[.string xn, .int .i64 xt, .int .i64 xc, .int .i64 xl, .string xd] 53)) g4 (fun b e => Sl.own_base own2 b e)
                obtain ⟨A4, c4, rfl⟩ := Sl.own_slice own4
                have c44 : w4.cell? ⟨km, 10, none⟩ = some (.slice Ax acc.length cx) := (blk_cell bm4 10).trans rfl
                have f44 := blk_frozen bm4 10
                have bm5 := blk_put bm4 10 (.slice A4 (acc.length + 1) c4) rfl
                have own5 := own_setCell (p := ⟨km, 10, none⟩) own4 (own_ne own4 bm4 (by decide)) (.slice A4 (acc.length + 1) c4)
                have G5 := grown_set' G4 10 (.slice A4 (acc.length + 1) c4)
                clear own2 own3a bm2 G2 s2 cb Ba g4 bm4 own4 G4 bq2
                go_wp2_with fail
                go_roundg (m + 1)
                case measure => omega
                case rel =>
                  refine ⟨m, xto, acc ++ [(⟨xn, xt, xc, xl, xd⟩ : Rr)], _, rfl, ?_, rfl, by omega, by simp; omega, HQ4.out, bm5, ?_, G5⟩
                  · have e1 : ((n1 - (m + 1) : Nat) : Int) + 1 = ((n1 - m : Nat) : Int) := by omega
                    first | rw [e1] | (congr 1)
                  · rw [List.length_append, cellsR_app]; simpa [cellsR] using own5
            | zero =>
              rw [Nat.sub_zero]
              have q0 : decide ((n1 : Int) < be2 s 6) = false := by rw [HN1.out]; simp
              have hq := HQ2.out
              clear HQ2
              unfold rR at hq
              have hs : _ = some r := andThen_some (by rw [HX1.out]; exact hq.symm) HS1.out
              dsimp only at hs
              have HR1 := Lib.hid hs
              clear hs hq HX1 HS1 hkk hmn
              go_wp2_with fail
              obtain ⟨A1, c1, rfl⟩ := Sl.own_slice hown
              have ow1 := hown
              clear hown
              have ow0n := own_other ow0 hG (by right; intro q; exact (own_ne ow0 bm0_ (by decide)) q.symm)
              replace ow0 := ow0n
              clear ow0n
              have lt1 := Lib.hid (own_lt ow1)
              obtain ⟨W2, hW2⟩ : ∃ Z : World, Z = wr := ⟨_, rfl⟩
              subst hW2
              skip
              obtain ⟨acc1, ha1⟩ : ∃ z, z = acc := ⟨_, rfl⟩
              subst ha1
              obtain ⟨at1, hb1⟩ : ∃ z, z = a := ⟨_, rfl⟩
              subst hb1
              obtain ⟨bm1_, bc1_, p01_, BB1_⟩ := And.intro bmr (And.intro bcr (And.intro p0r BR))
              clear bmr bcr p0r BR cj
              have bd2 := be2_bd s 8
              have cx2 : W2.cell? ⟨kc, 2, none⟩ = some (.int .i64 (be2 s 8)) := (blk_cell bc1_ 2).trans rfl
              rw [rounds_succ]
              have hr2 := HR1.out
              by_cases big2 : 64 < be2 s 8
              · have hr : got0 700 = r := by unfold many4 at hr2; rw [if_pos big2] at hr2; exact Option.some.inj hr2
                subst hr
                clear hr2
                have bq : decide ((64 : Int) < be2 s 8) = true := decide_eq_true big2
                have x0 : W2.cell? ⟨w.heap.size, 0, none⟩ = some (.int .i64 0) := (blk_cell p01_ 0).trans rfl
                have x1 : W2.cell? ⟨w.heap.size, 1, none⟩ = some (.bool false) := (blk_cell p01_ 1).trans rfl
                have x2 : W2.cell? ⟨w.heap.size, 2, none⟩ = some (.int .i64 0) := (blk_cell p01_ 2).trans rfl
                have x3 : W2.cell? ⟨w.heap.size, 3, none⟩ = some (.bool false) := (blk_cell p01_ 3).trans rfl
                have x4 : W2.cell? ⟨w.heap.size, 4, none⟩ = some (.bool false) := (blk_cell p01_ 4).trans rfl
                have x5 : W2.cell? ⟨w.heap.size, 5, none⟩ = some (.bool false) := (blk_cell p01_ 5).trans rfl
                have x6 : W2.cell? ⟨w.heap.size, 6, none⟩ = some (.bool false) := (blk_cell p01_ 6).trans rfl
                have x7 : W2.cell? ⟨w.heap.size, 7, none⟩ = some (.int .i64 0) := (blk_cell p01_ 7).trans rfl
                have x8 : W2.cell? ⟨w.heap.size, 8, none⟩ = some (.int .i64 0) := (blk_cell p01_ 8).trans rfl
                have x9 : W2.cell? ⟨w.heap.size, 9, none⟩ = some (.slice none 0 0) := (blk_cell p01_ 9).trans rfl
                have x10 : W2.cell? ⟨w.heap.size, 10, none⟩ = some (.slice none 0 0) := (blk_cell p01_ 10).trans rfl
                have x11 : W2.cell? ⟨w.heap.size, 11, none⟩ = some (.slice none 0 0) := (blk_cell p01_ 11).trans rfl
                have x12 : W2.cell? ⟨w.heap.size, 12, none⟩ = some (.slice none 0 0) := (blk_cell p01_ 12).trans rfl
                have y0 := blk_frozen p01_ 0
                have y1 := blk_frozen p01_ 1
                have y2 := blk_frozen p01_ 2
                have y3 := blk_frozen p01_ 3
                have y4 := blk_frozen p01_ 4
                have y5 := blk_frozen p01_ 5
                have y6 := blk_frozen p01_ 6
                have y7 := blk_frozen p01_ 7
                have y8 := blk_frozen p01_ 8
                have y9 := blk_frozen p01_ 9
                have y10 := blk_frozen p01_ 10
                have y11 := blk_frozen p01_ 11
                have y12 := blk_frozen p01_ 12
                have pF := putAll_blk 0 [.int .i64 0, .bool false, .int .i64 0, .bool false, .bool false, .bool false, .bool false, .int .i64 0, .int .i64 0, .slice none 0 0, .slice none 0 0, .slice none 0 0, .slice none 0 0] #[.int .i64 0, .bool false, .int .i64 0, .bool false, .bool false, .bool false, .bool false, .int .i64 0, .int .i64 0, .slice none 0 0, .slice none 0 0, .slice none 0 0, .slice none 0 0] p01_ (by simp [setAll])
                have GF := putAll_grown (row := none) 0 [.int .i64 0, .bool false, .int .i64 0, .bool false, .bool false, .bool false, .bool false, .int .i64 0, .int .i64 0, .slice none 0 0, .slice none 0 0, .slice none 0 0, .slice none 0 0] (grown_below BB1_ none) (Nat.le_refl _)
                simp only [putAll] at pF GF
                have e0 := (blk_cell pF 0).trans rfl
                have e1 := (blk_cell pF 1).trans rfl
                have e2 := (blk_cell pF 2).trans rfl
                have e3 := (blk_cell pF 3).trans rfl
                have e4 := (blk_cell pF 4).trans rfl
                have e5 := (blk_cell pF 5).trans rfl
                have e6 := (blk_cell pF 6).trans rfl
                have e7 := (blk_cell pF 7).trans rfl
                have e8 := (blk_cell pF 8).trans rfl
                have e9 := (blk_cell pF 9).trans rfl
                have e10 := (blk_cell pF 10).trans rfl
                have e11 := (blk_cell pF 11).trans rfl
                have e12 := (blk_cell pF 12).trans rfl
                go_wp2_with fail
                exact bodyPost_ret (v := .tuple #[.agg #[.int .i64 0, .bool false, .int .i64 0, .bool false, .bool false, .bool false, .bool false, .int .i64 0, .int .i64 0, .slice none 0 0, .slice none 0 0, .slice none 0 0, .slice none 0 0], .int .i64 700]) (by simp [results, Try.results25, go_sem, e0, e1, e2, e3, e4, e5, e6, e7, e8, e9, e10, e11, e12]) rfl (post0 s w _ 700 ⟨GF.os, GF.tape, GF.output, GF.size, fun k hk => GF.block k hk (by simp)⟩)
              have hs2 := hr2
              unfold many4 at hs2
              rw [if_neg big2] at hs2
              obtain ⟨X2, hX2⟩ := andThen_is hs2
              have HS2 := Lib.hid hs2
              have HX2 := Lib.hid hX2
              clear hr2 hs2 hX2 
              have bq2 : decide ((64 : Int) < be2 s 8) = false := decide_eq_false big2
              go_wp2_with fail
              obtain ⟨n2, hn2⟩ : ∃ n : Nat, be2 s 8 = (n : Int) := ⟨(be2 s 8).toNat, by omega⟩
              have hl2 : n2 ≤ 64 := by omega
              have HN2 := Lib.hid hn2
              clear hn2
              go_loopg [8, 10] (n2 + 1) (fun kk v8 v10 wr => ∃ (m : Nat) (a : Int) (acc : List Rr) (vx : Value), v8 = .int .i64 a ∧ v10 = .int .i64 (((n2 - m : Nat)) : Int) ∧ kk = m + 1 ∧ m ≤ n2 ∧ acc.length + m = n2 ∧ rR k s m a acc = some X2 ∧ wr.heap[km]? = some (.cells #[.int .i64 (Hd.getH s).id, .bool (Hd.getH s).qr, .int .i64 (Hd.getH s).op, .bool (Hd.getH s).aa, .bool (Hd.getH s).tc, .bool (Hd.getH s).rd, .bool (Hd.getH s).ra, .int .i64 (Hd.getH s).z, .int .i64 (Hd.getH s).rc, .slice A0 acc0.length c0, .slice A1 acc1.length c1, vx, .slice none 0 0] 27 (0, 0)) ∧ wr.ownsRow W2.heap.size 53 5 vx acc.length (cellsR acc) ∧ W2.grownBy wr (some km))
              case atStart => exact ⟨n2, at1, [], .slice none 0 0, rfl, by simp, rfl, Nat.le_refl _, by simp, by have := HX2.out; rw [HN2.out, Int.toNat_natCast] at this; exact this, bm1_, own_nil _ _ _ _, ⟨rfl, rfl, rfl, Nat.le_refl _, fun _ _ _ => rfl⟩⟩
              case round =>
                obtain ⟨m, a, acc, vx, rfl, rfl, hkk, hmn, hlen, hq, bmr, hown, hG⟩ := hrel
                have HQ2 := Lib.hid hq
                clear hq
                have hsz := hG.size
                have bcr := blk_grown bc1_ hG (by intro q; injection q with q; exact hcm q)
                have p0r := blk_grown p01_ hG (by intro q; injection q with q; exact hpm q)
                have BR : Below w.heap.size w wr := BB1_.grown hG BB1_.size (fun k e => by injection e with e; omega)
                have cj : wr.cell? ⟨kc, 2, none⟩ = some (.int .i64 (be2 s 8)) := (blk_cell bcr 2).trans rfl
                have hmgt : w.heap.size ≠ km := hpm
                cases m with
                | succ m =>
                  have q0 : decide ((((n2 - (m + 1) : Nat)) : Int) < be2 s 8) = true := by rw [HN2.out]; simp; omega
                  have hq := HQ2.out
                  clear HQ2
                  unfold rR at hq
                  obtain ⟨x, hx, hq⟩ := Option.bind_eq_some_iff.1 hq
                  obtain ⟨xn, xt, xc, xl, xd, xto, xok⟩ := x
                  have kq := PRf.wimpleref4_record.calls k s a xn xt xc xl xd xto xok wr hx
                  have HQ3 := Lib.hid hq
                  clear hq hx
                  go_wp2_with fail
                  refine kq.mono ?_
                  rintro e w2 ⟨rfl, B2⟩
                  clear kq
                  go_upto_region 23 with (fail)
                  have Bx : Below w2.heap.size w2 (w2.alloc (.cells #[.string xn, .int .i64 xt, .int .i64 xc, .int .i64 xl, .string xd] 53)) := (Below.refl _ _).alloc (Nat.le_refl _) _
                  have bq2 := blk_new w2 (.cells #[.string xn, .int .i64 xt, .int .i64 xc, .int .i64 xl, .string xd] 53)
                  have bm2 := blk_below (blk_below bmr B2) Bx
                  have p02 := blk_below (blk_below p0r B2) Bx
                  have BR2 := (BR.trans (B2.mono BR.size)).trans (Bx.mono (BR.trans (B2.mono BR.size)).size)
                  have own2 := Sl.own_below (Sl.own_below hown B2) Bx
                  have G2 := grown_alloc' (hG.trans (grown_below B2 (some km))) (.cells #[.string xn, .int .i64 xt, .int .i64 xc, .int .i64 xl, .string xd] 53)
                  have s2 := G2.size
                  clear bmr p0r BR hown hG bcr cj B2 Bx hsz
                  generalize w2.alloc (.cells #[.string xn, .int .i64 xt, .int .i64 xc, .int .i64 xl, .string xd] 53) = w3 at *
                  generalize w2.heap.size = gq at *
                  have cq0 : w3.cell? ⟨gq, 0, none⟩ = some (.string xn) := (blk_cell bq2 0).trans rfl
                  have cq1 : w3.cell? ⟨gq, 1, none⟩ = some (.int .i64 xt) := (blk_cell bq2 1).trans rfl
                  have cq2 : w3.cell? ⟨gq, 2, none⟩ = some (.int .i64 xc) := (blk_cell bq2 2).trans rfl
                  have cq3 : w3.cell? ⟨gq, 3, none⟩ = some (.int .i64 xl) := (blk_cell bq2 3).trans rfl
                  have cq4 : w3.cell? ⟨gq, 4, none⟩ = some (.string xd) := (blk_cell bq2 4).trans rfl
                  cases xok with
                  | false =>
                    have hr : got0 700 = r := andThen_none (by rw [HX2.out]; have := HQ3.out; simp at this; rw [← this]) HS2.out
                    subst hr
                    have x0 : w3.cell? ⟨w.heap.size, 0, none⟩ = some (.int .i64 0) := (blk_cell p02 0).trans rfl
                    have x1 : w3.cell? ⟨w.heap.size, 1, none⟩ = some (.bool false) := (blk_cell p02 1).trans rfl
                    have x2 : w3.cell? ⟨w.heap.size, 2, none⟩ = some (.int .i64 0) := (blk_cell p02 2).trans rfl
                    have x3 : w3.cell? ⟨w.heap.size, 3, none⟩ = some (.bool false) := (blk_cell p02 3).trans rfl
                    have x4 : w3.cell? ⟨w.heap.size, 4, none⟩ = some (.bool false) := (blk_cell p02 4).trans rfl
                    have x5 : w3.cell? ⟨w.heap.size, 5, none⟩ = some (.bool false) := (blk_cell p02 5).trans rfl
                    have x6 : w3.cell? ⟨w.heap.size, 6, none⟩ = some (.bool false) := (blk_cell p02 6).trans rfl
                    have x7 : w3.cell? ⟨w.heap.size, 7, none⟩ = some (.int .i64 0) := (blk_cell p02 7).trans rfl
                    have x8 : w3.cell? ⟨w.heap.size, 8, none⟩ = some (.int .i64 0) := (blk_cell p02 8).trans rfl
                    have x9 : w3.cell? ⟨w.heap.size, 9, none⟩ = some (.slice none 0 0) := (blk_cell p02 9).trans rfl
                    have x10 : w3.cell? ⟨w.heap.size, 10, none⟩ = some (.slice none 0 0) := (blk_cell p02 10).trans rfl
                    have x11 : w3.cell? ⟨w.heap.size, 11, none⟩ = some (.slice none 0 0) := (blk_cell p02 11).trans rfl
                    have x12 : w3.cell? ⟨w.heap.size, 12, none⟩ = some (.slice none 0 0) := (blk_cell p02 12).trans rfl
                    have y0 := blk_frozen p02 0
                    have y1 := blk_frozen p02 1
                    have y2 := blk_frozen p02 2
                    have y3 := blk_frozen p02 3
                    have y4 := blk_frozen p02 4
                    have y5 := blk_frozen p02 5
                    have y6 := blk_frozen p02 6
                    have y7 := blk_frozen p02 7
                    have y8 := blk_frozen p02 8
                    have y9 := blk_frozen p02 9
                    have y10 := blk_frozen p02 10
                    have y11 := blk_frozen p02 11
                    have y12 := blk_frozen p02 12
                    have pF := putAll_blk 0 [.int .i64 0, .bool false, .int .i64 0, .bool false, .bool false, .bool false, .bool false, .int .i64 0, .int .i64 0, .slice none 0 0, .slice none 0 0, .slice none 0 0, .slice none 0 0] #[.int .i64 0, .bool false, .int .i64 0, .bool false, .bool false, .bool false, .bool false, .int .i64 0, .int .i64 0, .slice none 0 0, .slice none 0 0, .slice none 0 0, .slice none 0 0] p02 (by simp [setAll])
                    have GF := putAll_grown (row := none) 0 [.int .i64 0, .bool false, .int .i64 0, .bool false, .bool false, .bool false, .bool false, .int .i64 0, .int .i64 0, .slice none 0 0, .slice none 0 0, .slice none 0 0, .slice none 0 0] (grown_below BR2 none) (Nat.le_refl _)
                    simp only [putAll] at pF GF
                    have e0 := (blk_cell pF 0).trans rfl
                    have e1 := (blk_cell pF 1).trans rfl
                    have e2 := (blk_cell pF 2).trans rfl
                    have e3 := (blk_cell pF 3).trans rfl
                    have e4 := (blk_cell pF 4).trans rfl
                    have e5 := (blk_cell pF 5).trans rfl
                    have e6 := (blk_cell pF 6).trans rfl
                    have e7 := (blk_cell pF 7).trans rfl
                    have e8 := (blk_cell pF 8).trans rfl
                    have e9 := (blk_cell pF 9).trans rfl
                    have e10 := (blk_cell pF 10).trans rfl
                    have e11 := (blk_cell pF 11).trans rfl
                    have e12 := (blk_cell pF 12).trans rfl
                    go_wp2_with fail
                    exact bodyPost_ret (v := .tuple #[.agg #[.int .i64 0, .bool false, .int .i64 0, .bool false, .bool false, .bool false, .bool false, .int .i64 0, .int .i64 0, .slice none 0 0, .slice none 0 0, .slice none 0 0, .slice none 0 0], .int .i64 700]) (by simp [results, Try.results25, go_sem, e0, e1, e2, e3, e4, e5, e6, e7, e8, e9, e10, e11, e12]) rfl (post0 s w _ 700 ⟨GF.os, GF.tape, GF.output, GF.size, fun k hk => GF.block k hk (by simp)⟩)
                  | true =>
                    have hq3 := HQ3.out
                    simp only [if_true] at hq3
                    have HQ4 := Lib.hid hq3
                    clear hq3 HQ3 p02 BR2
                    obtain ⟨Ax, cx, rfl⟩ := Sl.own_slice own2
                    have cb : w3.cell? ⟨km, 11, none⟩ = some (.slice Ax acc.length cx) := (blk_cell bm2 11).trans rfl
                    go_wp2_with (at_builtin; refine app_elem W2.heap.size rfl _ _ 25 53 (.agg #[.string ⟨#[]⟩, .int .i64 0, .int .i64 0, .int .i64 0, .string ⟨#[]⟩]) 5 56 rfl Try.underlying25 info_R rfl (by decide) own2 #[.string xn, .int .i64 xt, .int .i64 xc, .int .i64 xl, .string xd] rfl rfl rfl ?h1 s2 ?hn ?hl ?_)
                    case h1 => exact ⟨rfl, rfl, rfl, rfl, rfl⟩
                    case hn => omega
                    case hl => omega
                    intro v4 w4 own4 g4
                    have Ba : ∀ (Z : World) (o : Obj), Below Z.heap.size Z (Z.alloc o) := fun Z o => (Below.refl _ _).alloc (Nat.le_refl _) o
                    have own3a := Sl.own_below own2 (Ba _ (.cells #[.string xn, .int .i64 xt, .int .i64 xc, .int .i64 xl, .string xd] 53))
                    have bm4 := blk_grown (blk_below bm2 (Ba _ (.cells #[.string xn, .int .i64 xt, .int .i64 xc, .int .i64 xl, .string xd] 53))) g4 (own_ne own3a (blk_below bm2 (Ba _ (.cells #[.string xn, .int .i64 xt, .int .i64 xc, .int .i64 xl, .string xd] 53))) (by decide))
                    have G4 := grown_own (grown_alloc' G2 (.cells #[.string xn, .int .i64 xt, .int .i64 xc, .int .i64 xl, .string xd] 53)) g4 (fun b e => Sl.own_base own2 b e)
                    obtain ⟨A4, c4, rfl⟩ := Sl.own_slice own4
                    have c44 : w4.cell? ⟨km, 11, none⟩ = some (.slice Ax acc.length cx) := (blk_cell bm4 11).trans rfl
                    have f44 := blk_frozen bm4 11
                    have bm5 := blk_put bm4 11 (.slice A4 (acc.length + 1) c4) rfl
                    have own5 := own_setCell (p := ⟨km, 11, none⟩) own4 (own_ne own4 bm4 (by decide)) (.slice A4 (acc.length + 1) c4)
                    have G5 := grown_set' G4 11 (.slice A4 (acc.length + 1) c4)
                    clear own2 own3a bm2 G2 s2 cb Ba g4 bm4 own4 G4 bq2
                    go_wp2_with fail
                    go_roundg (m + 1)
                    case measure => omega
                    case rel =>
                      refine ⟨m, xto, acc ++ [(⟨xn, xt, xc, xl, xd⟩ : Rr)], _, rfl, ?_, rfl, by omega, by simp; omega, HQ4.out, bm5, ?_, G5⟩
                      · have e1 : ((n2 - (m + 1) : Nat) : Int) + 1 = ((n2 - m : Nat) : Int) := by omega
                        first | rw [e1] | (congr 1)
                      · rw [List.length_append, cellsR_app]; simpa [cellsR] using own5
                | zero =>
                  rw [Nat.sub_zero]
                  have q0 : decide ((n2 : Int) < be2 s 8) = false := by rw [HN2.out]; simp
                  have hq := HQ2.out
                  clear HQ2
                  unfold rR at hq
                  have hs : _ = some r := andThen_some (by rw [HX2.out]; exact hq.symm) HS2.out
                  dsimp only at hs
                  have HR2 := Lib.hid hs
                  clear hs hq HX2 HS2 hkk hmn
                  go_wp2_with fail
                  obtain ⟨A2, c2, rfl⟩ := Sl.own_slice hown
                  have ow2 := hown
                  clear hown
                  have ow0n := own_other ow0 hG (by right; intro q; exact (own_ne ow0 bm1_ (by decide)) q.symm)
                  replace ow0 := ow0n
                  clear ow0n
                  have ow1n := own_other ow1 hG (by right; intro q; exact (own_ne ow1 bm1_ (by decide)) q.symm)
                  replace ow1 := ow1n
                  clear ow1n
                  have lt2 := Lib.hid (own_lt ow2)
                  have bs2 := Lib.hid (Sl.own_base ow2)
                  have hsz2 := hsz
                  obtain ⟨W3, hW3⟩ : ∃ Z : World, Z = wr := ⟨_, rfl⟩
                  subst hW3
                  skip
                  obtain ⟨acc2, ha2⟩ : ∃ z, z = acc := ⟨_, rfl⟩
                  subst ha2
                  obtain ⟨at2, hb2⟩ : ∃ z, z = a := ⟨_, rfl⟩
                  subst hb2
                  obtain ⟨bm2_, bc2_, p02_, BB2_⟩ := And.intro bmr (And.intro bcr (And.intro p0r BR))
                  clear bmr bcr p0r BR cj
                  have bd3 := be2_bd s 10
                  have cx3 : W3.cell? ⟨kc, 3, none⟩ = some (.int .i64 (be2 s 10)) := (blk_cell bc2_ 3).trans rfl
                  rw [rounds_succ]
                  have hr3 := HR2.out
                  by_cases big3 : 64 < be2 s 10
                  · have hr : got0 700 = r := by unfold many4 at hr3; rw [if_pos big3] at hr3; exact Option.some.inj hr3
                    subst hr
                    clear hr3
                    have bq : decide ((64 : Int) < be2 s 10) = true := decide_eq_true big3
                    have x0 : W3.cell? ⟨w.heap.size, 0, none⟩ = some (.int .i64 0) := (blk_cell p02_ 0).trans rfl
                    have x1 : W3.cell? ⟨w.heap.size, 1, none⟩ = some (.bool false) := (blk_cell p02_ 1).trans rfl
                    have x2 : W3.cell? ⟨w.heap.size, 2, none⟩ = some (.int .i64 0) := (blk_cell p02_ 2).trans rfl
                    have x3 : W3.cell? ⟨w.heap.size, 3, none⟩ = some (.bool false) := (blk_cell p02_ 3).trans rfl
                    have x4 : W3.cell? ⟨w.heap.size, 4, none⟩ = some (.bool false) := (blk_cell p02_ 4).trans rfl
                    have x5 : W3.cell? ⟨w.heap.size, 5, none⟩ = some (.bool false) := (blk_cell p02_ 5).trans rfl
                    have x6 : W3.cell? ⟨w.heap.size, 6, none⟩ = some (.bool false) := (blk_cell p02_ 6).trans rfl
                    have x7 : W3.cell? ⟨w.heap.size, 7, none⟩ = some (.int .i64 0) := (blk_cell p02_ 7).trans rfl
                    have x8 : W3.cell? ⟨w.heap.size, 8, none⟩ = some (.int .i64 0) := (blk_cell p02_ 8).trans rfl
                    have x9 : W3.cell? ⟨w.heap.size, 9, none⟩ = some (.slice none 0 0) := (blk_cell p02_ 9).trans rfl
                    have x10 : W3.cell? ⟨w.heap.size, 10, none⟩ = some (.slice none 0 0) := (blk_cell p02_ 10).trans rfl
                    have x11 : W3.cell? ⟨w.heap.size, 11, none⟩ = some (.slice none 0 0) := (blk_cell p02_ 11).trans rfl
                    have x12 : W3.cell? ⟨w.heap.size, 12, none⟩ = some (.slice none 0 0) := (blk_cell p02_ 12).trans rfl
                    have y0 := blk_frozen p02_ 0
                    have y1 := blk_frozen p02_ 1
                    have y2 := blk_frozen p02_ 2
                    have y3 := blk_frozen p02_ 3
                    have y4 := blk_frozen p02_ 4
                    have y5 := blk_frozen p02_ 5
                    have y6 := blk_frozen p02_ 6
                    have y7 := blk_frozen p02_ 7
                    have y8 := blk_frozen p02_ 8
                    have y9 := blk_frozen p02_ 9
                    have y10 := blk_frozen p02_ 10
                    have y11 := blk_frozen p02_ 11
                    have y12 := blk_frozen p02_ 12
                    have pF := putAll_blk 0 [.int .i64 0, .bool false, .int .i64 0, .bool false, .bool false, .bool false, .bool false, .int .i64 0, .int .i64 0, .slice none 0 0, .slice none 0 0, .slice none 0 0, .slice none 0 0] #[.int .i64 0, .bool false, .int .i64 0, .bool false, .bool false, .bool false, .bool false, .int .i64 0, .int .i64 0, .slice none 0 0, .slice none 0 0, .slice none 0 0, .slice none 0 0] p02_ (by simp [setAll])
                    have GF := putAll_grown (row := none) 0 [.int .i64 0, .bool false, .int .i64 0, .bool false, .bool false, .bool false, .bool false, .int .i64 0, .int .i64 0, .slice none 0 0, .slice none 0 0, .slice none 0 0, .slice none 0 0] (grown_below BB2_ none) (Nat.le_refl _)
                    simp only [putAll] at pF GF
                    have e0 := (blk_cell pF 0).trans rfl
                    have e1 := (blk_cell pF 1).trans rfl
                    have e2 := (blk_cell pF 2).trans rfl
                    have e3 := (blk_cell pF 3).trans rfl
                    have e4 := (blk_cell pF 4).trans rfl
                    have e5 := (blk_cell pF 5).trans rfl
                    have e6 := (blk_cell pF 6).trans rfl
                    have e7 := (blk_cell pF 7).trans rfl
                    have e8 := (blk_cell pF 8).trans rfl
                    have e9 := (blk_cell pF 9).trans rfl
                    have e10 := (blk_cell pF 10).trans rfl
                    have e11 := (blk_cell pF 11).trans rfl
                    have e12 := (blk_cell pF 12).trans rfl
                    go_wp2_with fail
                    exact bodyPost_ret (v := .tuple #[.agg #[.int .i64 0, .bool false, .int .i64 0, .bool false, .bool false, .bool false, .bool false, .int .i64 0, .int .i64 0, .slice none 0 0, .slice none 0 0, .slice none 0 0, .slice none 0 0], .int .i64 700]) (by simp [results, Try.results25, go_sem, e0, e1, e2, e3, e4, e5, e6, e7, e8, e9, e10, e11, e12]) rfl (post0 s w _ 700 ⟨GF.os, GF.tape, GF.output, GF.size, fun k hk => GF.block k hk (by simp)⟩)
                  have hs3 := hr3
                  unfold many4 at hs3
                  rw [if_neg big3] at hs3
                  obtain ⟨X3, hX3⟩ := andThen_is hs3
                  have HS3 := Lib.hid hs3
                  have HX3 := Lib.hid hX3
                  clear hr3 hs3 hX3 
                  have bq3 : decide ((64 : Int) < be2 s 10) = false := decide_eq_false big3
                  go_wp2_with fail
                  obtain ⟨n3, hn3⟩ : ∃ n : Nat, be2 s 10 = (n : Int) := ⟨(be2 s 10).toNat, by omega⟩
                  have hl3 : n3 ≤ 64 := by omega
                  have HN3 := Lib.hid hn3
                  clear hn3
                  go_loopg [8, 10] (n3 + 1) (fun kk v8 v10 wr => ∃ (m : Nat) (a : Int) (acc : List Rr) (vx : Value), v8 = .int .i64 a ∧ v10 = .int .i64 (((n3 - m : Nat)) : Int) ∧ kk = m + 1 ∧ m ≤ n3 ∧ acc.length + m = n3 ∧ rR k s m a acc = some X3 ∧ wr.heap[km]? = some (.cells #[.int .i64 (Hd.getH s).id, .bool (Hd.getH s).qr, .int .i64 (Hd.getH s).op, .bool (Hd.getH s).aa, .bool (Hd.getH s).tc, .bool (Hd.getH s).rd, .bool (Hd.getH s).ra, .int .i64 (Hd.getH s).z, .int .i64 (Hd.getH s).rc, .slice A0 acc0.length c0, .slice A1 acc1.length c1, .slice A2 acc2.length c2, vx] 27 (0, 0)) ∧ wr.ownsRow W3.heap.size 53 5 vx acc.length (cellsR acc) ∧ W3.grownBy wr (some km))
                  case atStart => exact ⟨n3, at2, [], .slice none 0 0, rfl, by simp, rfl, Nat.le_refl _, by simp, by have := HX3.out; rw [HN3.out, Int.toNat_natCast] at this; exact this, bm2_, own_nil _ _ _ _, ⟨rfl, rfl, rfl, Nat.le_refl _, fun _ _ _ => rfl⟩⟩
                  case round =>
                    obtain ⟨m, a, acc, vx, rfl, rfl, hkk, hmn, hlen, hq, bmr, hown, hG⟩ := hrel
                    have HQ2 := Lib.hid hq
                    clear hq
                    have hsz := hG.size
                    have bcr := blk_grown bc2_ hG (by intro q; injection q with q; exact hcm q)
                    have p0r := blk_grown p02_ hG (by intro q; injection q with q; exact hpm q)
                    have BR : Below w.heap.size w wr := BB2_.grown hG BB2_.size (fun k e => by injection e with e; omega)
                    have cj : wr.cell? ⟨kc, 3, none⟩ = some (.int .i64 (be2 s 10)) := (blk_cell bcr 3).trans rfl
                    have hmgt : w.heap.size ≠ km := hpm
                    cases m with
                    | succ m =>
                      have q0 : decide ((((n3 - (m + 1) : Nat)) : Int) < be2 s 10) = true := by rw [HN3.out]; simp; omega
                      have hq := HQ2.out
                      clear HQ2
                      unfold rR at hq
                      obtain ⟨x, hx, hq⟩ := Option.bind_eq_some_iff.1 hq
                      obtain ⟨xn, xt, xc, xl, xd, xto, xok⟩ := x
                      have kq := PRf.wimpleref4_record.calls k s a xn xt xc xl xd xto xok wr hx
                      have HQ3 := Lib.hid hq
                      clear hq hx
                      go_wp2_with fail
                      refine kq.mono ?_
                      rintro e w2 ⟨rfl, B2⟩
                      clear kq
                      go_upto_region 23 with (fail)
                      have Bx : Below w2.heap.size w2 (w2.alloc (.cells #[.string xn, .int .i64 xt, .int .i64 xc, .int .i64 xl, .string xd] 53)) := (Below.refl _ _).alloc (Nat.le_refl _) _
                      have bq2 := blk_new w2 (.cells #[.string xn, .int .i64 xt, .int .i64 xc, .int .i64 xl, .string xd] 53)
                      have bm2 := blk_below (blk_below bmr B2) Bx
                      have p02 := blk_below (blk_below p0r B2) Bx
                      have BR2 := (BR.trans (B2.mono BR.size)).trans (Bx.mono (BR.trans (B2.mono BR.size)).size)
                      have own2 := Sl.own_below (Sl.own_below hown B2) Bx
                      have G2 := grown_alloc' (hG.trans (grown_below B2 (some km))) (.cells #[.string xn, .int .i64 xt, .int .i64 xc, .int .i64 xl, .string xd] 53)
                      have s2 := G2.size
                      clear bmr p0r BR hown hG bcr cj B2 Bx hsz
                      generalize w2.alloc (.cells #[.string xn, .int .i64 xt, .int .i64 xc, .int .i64 xl, .string xd] 53) = w3 at *
                      generalize w2.heap.size = gq at *
                      have cq0 : w3.cell? ⟨gq, 0, none⟩ = some (.string xn) := (blk_cell bq2 0).trans rfl
                      have cq1 : w3.cell? ⟨gq, 1, none⟩ = some (.int .i64 xt) := (blk_cell bq2 1).trans rfl
                      have cq2 : w3.cell? ⟨gq, 2, none⟩ = some (.int .i64 xc) := (blk_cell bq2 2).trans rfl
                      have cq3 : w3.cell? ⟨gq, 3, none⟩ = some (.int .i64 xl) := (blk_cell bq2 3).trans rfl
                      have cq4 : w3.cell? ⟨gq, 4, none⟩ = some (.string xd) := (blk_cell bq2 4).trans rfl
                      cases xok with
                      | false =>
                        have hr : got0 700 = r := andThen_none (by rw [HX3.out]; have := HQ3.out; simp at this; rw [← this]) HS3.out
                        subst hr
                        have x0 : w3.cell? ⟨w.heap.size, 0, none⟩ = some (.int .i64 0) := (blk_cell p02 0).trans rfl
                        have x1 : w3.cell? ⟨w.heap.size, 1, none⟩ = some (.bool false) := (blk_cell p02 1).trans rfl
                        have x2 : w3.cell? ⟨w.heap.size, 2, none⟩ = some (.int .i64 0) := (blk_cell p02 2).trans rfl
                        have x3 : w3.cell? ⟨w.heap.size, 3, none⟩ = some (.bool false) := (blk_cell p02 3).trans rfl
                        have x4 : w3.cell? ⟨w.heap.size, 4, none⟩ = some (.bool false) := (blk_cell p02 4).trans rfl
                        have x5 : w3.cell? ⟨w.heap.size, 5, none⟩ = some (.bool false) := (blk_cell p02 5).trans rfl
                        have x6 : w3.cell? ⟨w.heap.size, 6, none⟩ = some (.bool false) := (blk_cell p02 6).trans rfl
                        have x7 : w3.cell? ⟨w.heap.size, 7, none⟩ = some (.int .i64 0) := (blk_cell p02 7).trans rfl
                        have x8 : w3.cell? ⟨w.heap.size, 8, none⟩ = some (.int .i64 0) := (blk_cell p02 8).trans rfl
                        have x9 : w3.cell? ⟨w.heap.size, 9, none⟩ = some (.slice none 0 0) := (blk_cell p02 9).trans rfl
                        have x10 : w3.cell? ⟨w.heap.size, 10, none⟩ = some (.slice none 0 0) := (blk_cell p02 10).trans rfl
                        have x11 : w3.cell? ⟨w.heap.size, 11, none⟩ = some (.slice none 0 0) := (blk_cell p02 11).trans rfl
                        have x12 : w3.cell? ⟨w.heap.size, 12, none⟩ = some (.slice none 0 0) := (blk_cell p02 12).trans rfl
                        have y0 := blk_frozen p02 0
                        have y1 := blk_frozen p02 1
                        have y2 := blk_frozen p02 2
                        have y3 := blk_frozen p02 3
                        have y4 := blk_frozen p02 4
                        have y5 := blk_frozen p02 5
                        have y6 := blk_frozen p02 6
                        have y7 := blk_frozen p02 7
                        have y8 := blk_frozen p02 8
                        have y9 := blk_frozen p02 9
                        have y10 := blk_frozen p02 10
                        have y11 := blk_frozen p02 11
                        have y12 := blk_frozen p02 12
                        have pF := putAll_blk 0 [.int .i64 0, .bool false, .int .i64 0, .bool false, .bool false, .bool false, .bool false, .int .i64 0, .int .i64 0, .slice none 0 0, .slice none 0 0, .slice none 0 0, .slice none 0 0] #[.int .i64 0, .bool false, .int .i64 0, .bool false, .bool false, .bool false, .bool false, .int .i64 0, .int .i64 0, .slice none 0 0, .slice none 0 0, .slice none 0 0, .slice none 0 0] p02 (by simp [setAll])
                        have GF := putAll_grown (row := none) 0 [.int .i64 0, .bool false, .int .i64 0, .bool false, .bool false, .bool false, .bool false, .int .i64 0, .int .i64 0, .slice none 0 0, .slice none 0 0, .slice none 0 0, .slice none 0 0] (grown_below BR2 none) (Nat.le_refl _)
                        simp only [putAll] at pF GF
                        have e0 := (blk_cell pF 0).trans rfl
                        have e1 := (blk_cell pF 1).trans rfl
                        have e2 := (blk_cell pF 2).trans rfl
                        have e3 := (blk_cell pF 3).trans rfl
                        have e4 := (blk_cell pF 4).trans rfl
                        have e5 := (blk_cell pF 5).trans rfl
                        have e6 := (blk_cell pF 6).trans rfl
                        have e7 := (blk_cell pF 7).trans rfl
                        have e8 := (blk_cell pF 8).trans rfl
                        have e9 := (blk_cell pF 9).trans rfl
                        have e10 := (blk_cell pF 10).trans rfl
                        have e11 := (blk_cell pF 11).trans rfl
                        have e12 := (blk_cell pF 12).trans rfl
                        go_wp2_with fail
                        exact bodyPost_ret (v := .tuple #[.agg #[.int .i64 0, .bool false, .int .i64 0, .bool false, .bool false, .bool false, .bool false, .int .i64 0, .int .i64 0, .slice none 0 0, .slice none 0 0, .slice none 0 0, .slice none 0 0], .int .i64 700]) (by simp [results, Try.results25, go_sem, e0, e1, e2, e3, e4, e5, e6, e7, e8, e9, e10, e11, e12]) rfl (post0 s w _ 700 ⟨GF.os, GF.tape, GF.output, GF.size, fun k hk => GF.block k hk (by simp)⟩)
                      | true =>
                        have hq3 := HQ3.out
                        simp only [if_true] at hq3
                        have HQ4 := Lib.hid hq3
                        clear hq3 HQ3 p02 BR2
                        obtain ⟨Ax, cx, rfl⟩ := Sl.own_slice own2
                        have cb : w3.cell? ⟨km, 12, none⟩ = some (.slice Ax acc.length cx) := (blk_cell bm2 12).trans rfl
                        go_wp2_with (at_builtin; refine app_elem W3.heap.size rfl _ _ 25 53 (.agg #[.string ⟨#[]⟩, .int .i64 0, .int .i64 0, .int .i64 0, .string ⟨#[]⟩]) 5 56 rfl Try.underlying25 info_R rfl (by decide) own2 #[.string xn, .int .i64 xt, .int .i64 xc, .int .i64 xl, .string xd] rfl rfl rfl ?h1 s2 ?hn ?hl ?_)
                        case h1 => exact ⟨rfl, rfl, rfl, rfl, rfl⟩
                        case hn => omega
                        case hl => omega
                        intro v4 w4 own4 g4
                        have Ba : ∀ (Z : World) (o : Obj), Below Z.heap.size Z (Z.alloc o) := fun Z o => (Below.refl _ _).alloc (Nat.le_refl _) o
                        have own3a := Sl.own_below own2 (Ba _ (.cells #[.string xn, .int .i64 xt, .int .i64 xc, .int .i64 xl, .string xd] 53))
                        have bm4 := blk_grown (blk_below bm2 (Ba _ (.cells #[.string xn, .int .i64 xt, .int .i64 xc, .int .i64 xl, .string xd] 53))) g4 (own_ne own3a (blk_below bm2 (Ba _ (.cells #[.string xn, .int .i64 xt, .int .i64 xc, .int .i64 xl, .string xd] 53))) (by decide))
                        have G4 := grown_own (grown_alloc' G2 (.cells #[.string xn, .int .i64 xt, .int .i64 xc, .int .i64 xl, .string xd] 53)) g4 (fun b e => Sl.own_base own2 b e)
                        obtain ⟨A4, c4, rfl⟩ := Sl.own_slice own4
                        have c44 : w4.cell? ⟨km, 12, none⟩ = some (.slice Ax acc.length cx) := (blk_cell bm4 12).trans rfl
                        have f44 := blk_frozen bm4 12
                        have bm5 := blk_put bm4 12 (.slice A4 (acc.length + 1) c4) rfl
                        have own5 := own_setCell (p := ⟨km, 12, none⟩) own4 (own_ne own4 bm4 (by decide)) (.slice A4 (acc.length + 1) c4)
                        have G5 := grown_set' G4 12 (.slice A4 (acc.length + 1) c4)
                        clear own2 own3a bm2 G2 s2 cb Ba g4 bm4 own4 G4 bq2
                        go_wp2_with fail
                        go_roundg (m + 1)
                        case measure => omega
                        case rel =>
                          refine ⟨m, xto, acc ++ [(⟨xn, xt, xc, xl, xd⟩ : Rr)], _, rfl, ?_, rfl, by omega, by simp; omega, HQ4.out, bm5, ?_, G5⟩
                          · have e1 : ((n3 - (m + 1) : Nat) : Int) + 1 = ((n3 - m : Nat) : Int) := by omega
                            first | rw [e1] | (congr 1)
                          · rw [List.length_append, cellsR_app]; simpa [cellsR] using own5
                    | zero =>
                      rw [Nat.sub_zero]
                      have q0 : decide ((n3 : Int) < be2 s 10) = false := by rw [HN3.out]; simp
                      have hq := HQ2.out
                      clear HQ2
                      unfold rR at hq
                      have hs : _ = some r := andThen_some (by rw [HX3.out]; exact hq.symm) HS3.out
                      dsimp only at hs
                      have HR3 := Lib.hid hs
                      clear hs hq HX3 HS3 hkk hmn
                      go_wp2_with fail
                      obtain ⟨A3, c3, rfl⟩ := Sl.own_slice hown
                      have ow3 := hown
                      clear hown
                      have ow0n := own_other ow0 hG (by right; intro q; exact (own_ne ow0 bm2_ (by decide)) q.symm)
                      replace ow0 := ow0n
                      clear ow0n
                      have ow1n := own_other ow1 hG (by right; intro q; exact (own_ne ow1 bm2_ (by decide)) q.symm)
                      replace ow1 := ow1n
                      clear ow1n
                      have ow2n := own_other ow2 hG (by right; intro q; exact (own_ne ow2 bm2_ (by decide)) q.symm)
                      replace ow2 := ow2n
                      clear ow2n
                      have lt3 := Lib.hid (own_lt ow3)
                      have bs3 := Lib.hid (Sl.own_base ow3)
                      have hsz3 := hsz
                      obtain ⟨W4, hW4⟩ : ∃ Z : World, Z = wr := ⟨_, rfl⟩
                      subst hW4
                      skip
                      obtain ⟨acc3, ha3⟩ : ∃ z, z = acc := ⟨_, rfl⟩
                      subst ha3
                      obtain ⟨at3, hb3⟩ : ∃ z, z = a := ⟨_, rfl⟩
                      subst hb3
                      obtain ⟨bm3_, bc3_, p03_, BB3_⟩ := And.intro bmr (And.intro bcr (And.intro p0r BR))
                      clear bmr bcr p0r BR cj
                      rw [rounds_succ]
                      go_upto_region 32 with (fail)
                      have hr5 := HR3.out
                      have hr6 : ((at3 != (s.size : Int)) = true ∧ got0 700 = r) ∨ ((at3 != (s.size : Int)) = false ∧ (⟨Hd.getH s, acc0, acc1, acc2, acc3, 0⟩ : Got) = r) := by
                        by_cases e : at3 = (s.size : Int)
                        · exact .inr ⟨by simpa using e, Option.some.inj (by simpa [e] using hr5)⟩
                        · exact .inl ⟨by simpa using e, Option.some.inj (by simpa [e] using hr5)⟩
                      have HR6 := Lib.hid hr6
                      clear hr5 hr6 HR3
                      rcases HR6.out with ⟨hat, rfl⟩ | ⟨hat, rfl⟩
                      · skip
                        have x0 : W4.cell? ⟨w.heap.size, 0, none⟩ = some (.int .i64 0) := (blk_cell p03_ 0).trans rfl
                        have x1 : W4.cell? ⟨w.heap.size, 1, none⟩ = some (.bool false) := (blk_cell p03_ 1).trans rfl
                        have x2 : W4.cell? ⟨w.heap.size, 2, none⟩ = some (.int .i64 0) := (blk_cell p03_ 2).trans rfl
                        have x3 : W4.cell? ⟨w.heap.size, 3, none⟩ = some (.bool false) := (blk_cell p03_ 3).trans rfl
                        have x4 : W4.cell? ⟨w.heap.size, 4, none⟩ = some (.bool false) := (blk_cell p03_ 4).trans rfl
                        have x5 : W4.cell? ⟨w.heap.size, 5, none⟩ = some (.bool false) := (blk_cell p03_ 5).trans rfl
                        have x6 : W4.cell? ⟨w.heap.size, 6, none⟩ = some (.bool false) := (blk_cell p03_ 6).trans rfl
                        have x7 : W4.cell? ⟨w.heap.size, 7, none⟩ = some (.int .i64 0) := (blk_cell p03_ 7).trans rfl
                        have x8 : W4.cell? ⟨w.heap.size, 8, none⟩ = some (.int .i64 0) := (blk_cell p03_ 8).trans rfl
                        have x9 : W4.cell? ⟨w.heap.size, 9, none⟩ = some (.slice none 0 0) := (blk_cell p03_ 9).trans rfl
                        have x10 : W4.cell? ⟨w.heap.size, 10, none⟩ = some (.slice none 0 0) := (blk_cell p03_ 10).trans rfl
                        have x11 : W4.cell? ⟨w.heap.size, 11, none⟩ = some (.slice none 0 0) := (blk_cell p03_ 11).trans rfl
                        have x12 : W4.cell? ⟨w.heap.size, 12, none⟩ = some (.slice none 0 0) := (blk_cell p03_ 12).trans rfl
                        have y0 := blk_frozen p03_ 0
                        have y1 := blk_frozen p03_ 1
                        have y2 := blk_frozen p03_ 2
                        have y3 := blk_frozen p03_ 3
                        have y4 := blk_frozen p03_ 4
                        have y5 := blk_frozen p03_ 5
                        have y6 := blk_frozen p03_ 6
                        have y7 := blk_frozen p03_ 7
                        have y8 := blk_frozen p03_ 8
                        have y9 := blk_frozen p03_ 9
                        have y10 := blk_frozen p03_ 10
                        have y11 := blk_frozen p03_ 11
                        have y12 := blk_frozen p03_ 12
                        have pF := putAll_blk 0 [.int .i64 0, .bool false, .int .i64 0, .bool false, .bool false, .bool false, .bool false, .int .i64 0, .int .i64 0, .slice none 0 0, .slice none 0 0, .slice none 0 0, .slice none 0 0] #[.int .i64 0, .bool false, .int .i64 0, .bool false, .bool false, .bool false, .bool false, .int .i64 0, .int .i64 0, .slice none 0 0, .slice none 0 0, .slice none 0 0, .slice none 0 0] p03_ (by simp [setAll])
                        have GF := putAll_grown (row := none) 0 [.int .i64 0, .bool false, .int .i64 0, .bool false, .bool false, .bool false, .bool false, .int .i64 0, .int .i64 0, .slice none 0 0, .slice none 0 0, .slice none 0 0, .slice none 0 0] (grown_below BB3_ none) (Nat.le_refl _)
                        simp only [putAll] at pF GF
                        have e0 := (blk_cell pF 0).trans rfl
                        have e1 := (blk_cell pF 1).trans rfl
                        have e2 := (blk_cell pF 2).trans rfl
                        have e3 := (blk_cell pF 3).trans rfl
                        have e4 := (blk_cell pF 4).trans rfl
                        have e5 := (blk_cell pF 5).trans rfl
                        have e6 := (blk_cell pF 6).trans rfl
                        have e7 := (blk_cell pF 7).trans rfl
                        have e8 := (blk_cell pF 8).trans rfl
                        have e9 := (blk_cell pF 9).trans rfl
                        have e10 := (blk_cell pF 10).trans rfl
                        have e11 := (blk_cell pF 11).trans rfl
                        have e12 := (blk_cell pF 12).trans rfl
                        go_wp2_with fail
                        exact bodyPost_ret (v := .tuple #[.agg #[.int .i64 0, .bool false, .int .i64 0, .bool false, .bool false, .bool false, .bool false, .int .i64 0, .int .i64 0, .slice none 0 0, .slice none 0 0, .slice none 0 0, .slice none 0 0], .int .i64 700]) (by simp [results, Try.results25, go_sem, e0, e1, e2, e3, e4, e5, e6, e7, e8, e9, e10, e11, e12]) rfl (post0 s w _ 700 ⟨GF.os, GF.tape, GF.output, GF.size, fun k hk => GF.block k hk (by simp)⟩)
                      · skip
                        have x0 : W4.cell? ⟨w.heap.size, 0, none⟩ = some (.int .i64 0) := (blk_cell p03_ 0).trans rfl
                        have x1 : W4.cell? ⟨w.heap.size, 1, none⟩ = some (.bool false) := (blk_cell p03_ 1).trans rfl
                        have x2 : W4.cell? ⟨w.heap.size, 2, none⟩ = some (.int .i64 0) := (blk_cell p03_ 2).trans rfl
                        have x3 : W4.cell? ⟨w.heap.size, 3, none⟩ = some (.bool false) := (blk_cell p03_ 3).trans rfl
                        have x4 : W4.cell? ⟨w.heap.size, 4, none⟩ = some (.bool false) := (blk_cell p03_ 4).trans rfl
                        have x5 : W4.cell? ⟨w.heap.size, 5, none⟩ = some (.bool false) := (blk_cell p03_ 5).trans rfl
                        have x6 : W4.cell? ⟨w.heap.size, 6, none⟩ = some (.bool false) := (blk_cell p03_ 6).trans rfl
                        have x7 : W4.cell? ⟨w.heap.size, 7, none⟩ = some (.int .i64 0) := (blk_cell p03_ 7).trans rfl
                        have x8 : W4.cell? ⟨w.heap.size, 8, none⟩ = some (.int .i64 0) := (blk_cell p03_ 8).trans rfl
                        have x9 : W4.cell? ⟨w.heap.size, 9, none⟩ = some (.slice none 0 0) := (blk_cell p03_ 9).trans rfl
                        have x10 : W4.cell? ⟨w.heap.size, 10, none⟩ = some (.slice none 0 0) := (blk_cell p03_ 10).trans rfl
                        have x11 : W4.cell? ⟨w.heap.size, 11, none⟩ = some (.slice none 0 0) := (blk_cell p03_ 11).trans rfl
                        have x12 : W4.cell? ⟨w.heap.size, 12, none⟩ = some (.slice none 0 0) := (blk_cell p03_ 12).trans rfl
                        have y0 := blk_frozen p03_ 0
                        have y1 := blk_frozen p03_ 1
                        have y2 := blk_frozen p03_ 2
                        have y3 := blk_frozen p03_ 3
                        have y4 := blk_frozen p03_ 4
                        have y5 := blk_frozen p03_ 5
                        have y6 := blk_frozen p03_ 6
                        have y7 := blk_frozen p03_ 7
                        have y8 := blk_frozen p03_ 8
                        have y9 := blk_frozen p03_ 9
                        have y10 := blk_frozen p03_ 10
                        have y11 := blk_frozen p03_ 11
                        have y12 := blk_frozen p03_ 12
                        have z0 : W4.cell? ⟨km, 0, none⟩ = some (.int .i64 (Hd.getH s).id) := (blk_cell bm3_ 0).trans rfl
                        have z1 : W4.cell? ⟨km, 1, none⟩ = some (.bool (Hd.getH s).qr) := (blk_cell bm3_ 1).trans rfl
                        have z2 : W4.cell? ⟨km, 2, none⟩ = some (.int .i64 (Hd.getH s).op) := (blk_cell bm3_ 2).trans rfl
                        have z3 : W4.cell? ⟨km, 3, none⟩ = some (.bool (Hd.getH s).aa) := (blk_cell bm3_ 3).trans rfl
                        have z4 : W4.cell? ⟨km, 4, none⟩ = some (.bool (Hd.getH s).tc) := (blk_cell bm3_ 4).trans rfl
                        have z5 : W4.cell? ⟨km, 5, none⟩ = some (.bool (Hd.getH s).rd) := (blk_cell bm3_ 5).trans rfl
                        have z6 : W4.cell? ⟨km, 6, none⟩ = some (.bool (Hd.getH s).ra) := (blk_cell bm3_ 6).trans rfl
                        have z7 : W4.cell? ⟨km, 7, none⟩ = some (.int .i64 (Hd.getH s).z) := (blk_cell bm3_ 7).trans rfl
                        have z8 : W4.cell? ⟨km, 8, none⟩ = some (.int .i64 (Hd.getH s).rc) := (blk_cell bm3_ 8).trans rfl
                        have z9 : W4.cell? ⟨km, 9, none⟩ = some (.slice A0 acc0.length c0) := (blk_cell bm3_ 9).trans rfl
                        have z10 : W4.cell? ⟨km, 10, none⟩ = some (.slice A1 acc1.length c1) := (blk_cell bm3_ 10).trans rfl
                        have z11 : W4.cell? ⟨km, 11, none⟩ = some (.slice A2 acc2.length c2) := (blk_cell bm3_ 11).trans rfl
                        have z12 : W4.cell? ⟨km, 12, none⟩ = some (.slice A3 acc3.length c3) := (blk_cell bm3_ 12).trans rfl
                        have hle0 := BB0.size
                        have hle1 := BB0_.size
                        have hle2 := BB1_.size
                        have hle3 := BB2_.size
                        go_wp2_with fail
                        have pF := putAll_blk 0 [.int .i64 (Hd.getH s).id, .bool (Hd.getH s).qr, .int .i64 (Hd.getH s).op, .bool (Hd.getH s).aa, .bool (Hd.getH s).tc, .bool (Hd.getH s).rd, .bool (Hd.getH s).ra, .int .i64 (Hd.getH s).z, .int .i64 (Hd.getH s).rc, .slice A0 acc0.length c0, .slice A1 acc1.length c1, .slice A2 acc2.length c2, .slice A3 acc3.length c3] #[.int .i64 (Hd.getH s).id, .bool (Hd.getH s).qr, .int .i64 (Hd.getH s).op, .bool (Hd.getH s).aa, .bool (Hd.getH s).tc, .bool (Hd.getH s).rd, .bool (Hd.getH s).ra, .int .i64 (Hd.getH s).z, .int .i64 (Hd.getH s).rc, .slice A0 acc0.length c0, .slice A1 acc1.length c1, .slice A2 acc2.length c2, .slice A3 acc3.length c3] p03_ (by simp [setAll])
                        have GF := putAll_grown (row := none) 0 [.int .i64 (Hd.getH s).id, .bool (Hd.getH s).qr, .int .i64 (Hd.getH s).op, .bool (Hd.getH s).aa, .bool (Hd.getH s).tc, .bool (Hd.getH s).rd, .bool (Hd.getH s).ra, .int .i64 (Hd.getH s).z, .int .i64 (Hd.getH s).rc, .slice A0 acc0.length c0, .slice A1 acc1.length c1, .slice A2 acc2.length c2, .slice A3 acc3.length c3] (grown_below BB3_ none) (Nat.le_refl _)
                        have o0 := putAll_own 0 [.int .i64 (Hd.getH s).id, .bool (Hd.getH s).qr, .int .i64 (Hd.getH s).op, .bool (Hd.getH s).aa, .bool (Hd.getH s).tc, .bool (Hd.getH s).rd, .bool (Hd.getH s).ra, .int .i64 (Hd.getH s).z, .int .i64 (Hd.getH s).rc, .slice A0 acc0.length c0, .slice A1 acc1.length c1, .slice A2 acc2.length c2, .slice A3 acc3.length c3] ow0 (own_ne ow0 p03_ (by decide))
                        have o1 := putAll_own 0 [.int .i64 (Hd.getH s).id, .bool (Hd.getH s).qr, .int .i64 (Hd.getH s).op, .bool (Hd.getH s).aa, .bool (Hd.getH s).tc, .bool (Hd.getH s).rd, .bool (Hd.getH s).ra, .int .i64 (Hd.getH s).z, .int .i64 (Hd.getH s).rc, .slice A0 acc0.length c0, .slice A1 acc1.length c1, .slice A2 acc2.length c2, .slice A3 acc3.length c3] ow1 (own_ne ow1 p03_ (by decide))
                        have o2 := putAll_own 0 [.int .i64 (Hd.getH s).id, .bool (Hd.getH s).qr, .int .i64 (Hd.getH s).op, .bool (Hd.getH s).aa, .bool (Hd.getH s).tc, .bool (Hd.getH s).rd, .bool (Hd.getH s).ra, .int .i64 (Hd.getH s).z, .int .i64 (Hd.getH s).rc, .slice A0 acc0.length c0, .slice A1 acc1.length c1, .slice A2 acc2.length c2, .slice A3 acc3.length c3] ow2 (own_ne ow2 p03_ (by decide))
                        have o3 := putAll_own 0 [.int .i64 (Hd.getH s).id, .bool (Hd.getH s).qr, .int .i64 (Hd.getH s).op, .bool (Hd.getH s).aa, .bool (Hd.getH s).tc, .bool (Hd.getH s).rd, .bool (Hd.getH s).ra, .int .i64 (Hd.getH s).z, .int .i64 (Hd.getH s).rc, .slice A0 acc0.length c0, .slice A1 acc1.length c1, .slice A2 acc2.length c2, .slice A3 acc3.length c3] ow3 (own_ne ow3 p03_ (by decide))
                        simp only [putAll] at pF GF o0 o1 o2 o3
                        have e0 := (blk_cell pF 0).trans rfl
                        have e1 := (blk_cell pF 1).trans rfl
                        have e2 := (blk_cell pF 2).trans rfl
                        have e3 := (blk_cell pF 3).trans rfl
                        have e4 := (blk_cell pF 4).trans rfl
                        have e5 := (blk_cell pF 5).trans rfl
                        have e6 := (blk_cell pF 6).trans rfl
                        have e7 := (blk_cell pF 7).trans rfl
                        have e8 := (blk_cell pF 8).trans rfl
                        have e9 := (blk_cell pF 9).trans rfl
                        have e10 := (blk_cell pF 10).trans rfl
                        have e11 := (blk_cell pF 11).trans rfl
                        have e12 := (blk_cell pF 12).trans rfl
                        refine bodyPost_ret (v := .tuple #[.agg #[.int .i64 (Hd.getH s).id, .bool (Hd.getH s).qr, .int .i64 (Hd.getH s).op, .bool (Hd.getH s).aa, .bool (Hd.getH s).tc, .bool (Hd.getH s).rd, .bool (Hd.getH s).ra, .int .i64 (Hd.getH s).z, .int .i64 (Hd.getH s).rc, .slice A0 acc0.length c0, .slice A1 acc1.length c1, .slice A2 acc2.length c2, .slice A3 acc3.length c3], .int .i64 0]) (by simp [results, Try.results25, go_sem, e0, e1, e2, e3, e4, e5, e6, e7, e8, e9, e10, e11, e12]) rfl ?_
                        refine ⟨_, _, _, _, rfl, own_lower o0 hle0, own_lower o1 hle1, own_lower o2 hle2, own_lower o3 hle3, ?k1, ?k2, ?k3, ⟨GF.os, GF.tape, GF.output, GF.size, fun k hk => GF.block k hk (by simp)⟩⟩
                        case k1 => exact fun k hk => ⟨fun q => by have a := lt1.out k hk; have b := bs2.out k q.symm; omega, fun q => by have a := lt1.out k hk; have b := bs3.out k q.symm; omega⟩
                        case k2 => exact fun k hk => ⟨fun q => by have a := lt1.out k q.symm; have b := bs2.out k hk; omega, fun q => by have a := lt2.out k hk; have b := bs3.out k q.symm; omega⟩
                        case k3 => exact fun k hk => ⟨fun q => by have a := lt1.out k q.symm; have b := bs3.out k hk; omega, fun q => by have a := lt2.out k q.symm; have b := bs3.out k hk; omega⟩
end Go.Proofs.Ytjklgdpffmaamaa.Wm

namespace Go.Proofs.Ytjklgdpffmaamaa.Wm
open Go.RowKit Go.PlainAid Go.Proofs.Ytjklgdpffmaamaa.Base Go.Proofs.Ytjklgdpffmaamaa.Oct Go.Proofs.Ytjklgdpffmaamaa.Nm Go.Proofs.Ytjklgdpffmaamaa.Wr Go.Proofs.Ytjklgdpffmaamaa.PCm Go.Proofs.Ytjklgdpffmaamaa.CompS Go.Proofs.Ytjklgdpffmaamaa.Pu
open Go.Proofs.YtjklgdpffmaamaaW.PrintWords (Ev bytesOf bytesOf_length LeO)
set_option linter.unusedVariables false
theorem st0_ok {hS : ByteArray} (h : hS.size = 12) : st0 hS = ⟨hS, fun _ => none, false⟩ := by
  unfold st0 rawSt
  rw [if_neg (by show ¬ 4096 < 0 + hS.size; omega)]
  rw [show (⟨#[]⟩ : ByteArray) ++ hS = hS from ByteArray.empty_append]
theorem st0_good {hS : ByteArray} (h : hS.size = 12) : Good (st0 hS) := by
  rw [st0_ok h]
  exact ⟨(fun r t k => by cases k), by show hS.size ≤ 4096; omega, rfl⟩
theorem putOk_parts {m : MsgV} (h : putOk m = true) : hOk m = true ∧ hStr m = m.h.putS m.qs.length m.an.length m.ns.length m.ar.length ∧ (m.qs.length ≤ 64 ∧ m.an.length ≤ 64 ∧ m.ns.length ≤ 64 ∧ m.ar.length ≤ 64) ∧ (∀ q ∈ m.qs, qMay q = true) ∧ (∀ r ∈ m.an, rMay r = true) ∧ (∀ r ∈ m.ns, rMay r = true) ∧ (∀ r ∈ m.ar, rMay r = true) := by
  unfold putOk at h
  simp only [Bool.and_eq_true] at h
  obtain ⟨h0, h1⟩ := h
  have hl := fits_len h1
  unfold fitsB at h1
  simp only [Bool.and_eq_true, List.all_eq_true] at h1
  obtain ⟨⟨⟨⟨_, a⟩, _, b⟩, _, c⟩, _, d⟩ := h1
  refine ⟨h0, ?_, hl, a, b, c, d⟩
  unfold hStr Hd.wroteS
  exact if_pos h0
structure Steps (m : MsgV) where
  g0 : Good (st0 (hStr m))
  gq : Good (m.qs.foldl qStep (st0 (hStr m)))
  ga : Good (m.an.foldl rSt (m.qs.foldl qStep (st0 (hStr m))))
  gn : Good (m.ns.foldl rSt (m.an.foldl rSt (m.qs.foldl qStep (st0 (hStr m)))))
  gr : Good (putEnd m)
theorem steps {m : MsgV} (hok : putOk m = true) (hl : (putEnd m).lg = false) : Steps m := by
  obtain ⟨h0, hs, _⟩ := putOk_parts hok
  have z : (hStr m).size = 12 := by rw [hs, Hd.putS_size]
  have l3 := foldR_lg m.ar _ hl
  have l2 := foldR_lg m.ns _ l3
  have l1 := foldR_lg m.an _ l2
  have G0 := st0_good z
  have G1 := foldQ_good m.qs _ (fun _ => G0) l1
  have G2 := foldR_good m.an _ (fun _ => G1) l2
  have G3 := foldR_good m.ns _ (fun _ => G2) l3
  exact ⟨G0, G1, G2, G3, foldR_good m.ar _ (fun _ => G3) hl⟩
/-- Reading what was written, whatever goes on behind it. -/
theorem get_put {m : MsgV} (hok : putOk m = true) (hl : (putEnd m).lg = false) (U : ByteArray) (hz : ((putEnd m).S ++ U).size ≤ 4096) :
    Ev (fun k => getV k ((putEnd m).S ++ U)) (if U.size = 0 then ⟨m.h, m.qs, m.an, m.ns, m.ar, 0⟩ else got0 700) := by
  obtain ⟨h0, hs, ⟨n1, n2, n3, n4⟩, q1, q2, q3, q4⟩ := putOk_parts hok
  have z : (hStr m).size = 12 := by rw [hs, Hd.putS_size]
  obtain ⟨G0, G1, G2, G3, G4⟩ := steps hok hl
  obtain ⟨V1, e1⟩ := foldQ_more m.qs (st0 (hStr m)) G1.lg
  obtain ⟨V2, e2⟩ := foldR_more m.an _ G2.lg
  obtain ⟨V3, e3⟩ := foldR_more m.ns _ G3.lg
  obtain ⟨V4, e4⟩ := foldR_more m.ar _ G4.lg
  have e4 : (putEnd m).S = (m.ns.foldl rSt (m.an.foldl rSt (m.qs.foldl qStep (st0 (hStr m))))).S ++ V4 := e4
  have s0 : (st0 (hStr m)).S = hStr m := by rw [st0_ok z]
  rw [s0] at e1
  generalize hT : (putEnd m).S ++ U = T at hz ⊢
  have eT : T = m.h.putS m.qs.length m.an.length m.ns.length m.ar.length ++ (V1 ++ (V2 ++ (V3 ++ (V4 ++ U)))) := by
    rw [← hT, e4, e3, e2, e1, hs]; simp only [ByteArray.append_assoc]
  have zT : 12 ≤ T.size := by rw [eT, ByteArray.size_append, Hd.putS_size]; omega
  obtain ⟨b0, b4, b6, b8, b10, _⟩ := Hd.back m.h _ _ _ _ (V1 ++ (V2 ++ (V3 ++ (V4 ++ U)))) h0
  rw [← eT, Hd.gotH_yes zT] at b0
  rw [← eT, Hd.gotC_yes zT] at b4 b6 b8 b10
  have zU : T.size = (putEnd m).S.size + U.size := by rw [← hT, ByteArray.size_append]
  unfold getV
  refine Ev.neg (by omega) (Ev.neg (by omega) ?_)
  rw [b4, b6, b8, b10]
  simp only [Int.toNat_natCast]
  have c1 : ∃ X, T = (m.qs.foldl qStep (st0 (hStr m))).S ++ X := ⟨V2 ++ (V3 ++ (V4 ++ U)), by rw [← hT, e4, e3, e2]; simp only [ByteArray.append_assoc]⟩
  have c2 : ∃ X, T = (m.an.foldl rSt (m.qs.foldl qStep (st0 (hStr m)))).S ++ X := ⟨V3 ++ (V4 ++ U), by rw [← hT, e4, e3]; simp only [ByteArray.append_assoc]⟩
  have c3 : ∃ X, T = (m.ns.foldl rSt (m.an.foldl rSt (m.qs.foldl qStep (st0 (hStr m))))).S ++ X := ⟨V4 ++ U, by rw [← hT, e4]; simp only [ByteArray.append_assoc]⟩
  have r1 := listQ_read (T := T) (by omega) n1 G0 q1 G1.lg c1
  rw [s0, z] at r1
  refine Ev.bind r1 ?_
  refine Ev.bind (listR_read (T := T) (by omega) n2 G1 q2 G2.lg c2) ?_
  refine Ev.bind (listR_read (T := T) (by omega) n3 G2 q3 G3.lg c3) ?_
  refine Ev.bind (listR_read (T := T) (by omega) n4 G3 q4 G4.lg ⟨U, hT.symm⟩) ?_
  dsimp only
  rw [show (List.foldl rSt (List.foldl rSt (List.foldl rSt (List.foldl qStep (st0 (hStr m)) m.qs) m.an) m.ns) m.ar) = putEnd m from rfl]
  by_cases hU : U.size = 0
  · rw [if_pos hU]
    refine Ev.neg (by simp; omega) (Ev.some _ fun _ => ?_)
    rw [b0]
  · rw [if_neg hU]
    exact Ev.pos (by simp; omega) (Ev.some _ fun _ => rfl)
theorem put_S {m : MsgV} (hok : putOk m = true) (hl : (putEnd m).lg = false) : putS m = (putEnd m).S ∧ putE m = 0 ∧ 12 ≤ (putEnd m).S.size ∧ (putEnd m).S.size ≤ 4096 := by
  unfold putS putE
  rw [if_pos hok, if_pos hok, if_neg (by rw [hl]; decide), if_neg (by rw [hl]; decide)]
  obtain ⟨h0, hs, _⟩ := putOk_parts hok
  have z : (hStr m).size = 12 := by rw [hs, Hd.putS_size]
  obtain ⟨G0, G1, G2, G3, G4⟩ := steps hok hl
  obtain ⟨V1, e1⟩ := foldQ_more m.qs (st0 (hStr m)) G1.lg
  obtain ⟨V2, e2⟩ := foldR_more m.an _ G2.lg
  obtain ⟨V3, e3⟩ := foldR_more m.ns _ G3.lg
  obtain ⟨V4, e4⟩ := foldR_more m.ar _ G4.lg
  have e4 : (putEnd m).S = (m.ns.foldl rSt (m.an.foldl rSt (m.qs.foldl qStep (st0 (hStr m))))).S ++ V4 := e4
  have s0 : (st0 (hStr m)).S = hStr m := by rw [st0_ok z]
  refine ⟨rfl, rfl, ?_, G4.size⟩
  rw [e4, e3, e2, e1, s0]
  simp only [ByteArray.size_append]
  omega
theorem put_err {m : MsgV} (h : ¬ (putOk m = true ∧ (putEnd m).lg = false)) : putS m = ⟨#[]⟩ ∧ (putE m = 700 ∧ putOk m = false ∨ putE m = 701 ∧ putOk m = true ∧ (putEnd m).lg = true) := by
  unfold putS putE
  by_cases hok : putOk m = true
  · have hl : (putEnd m).lg = true := by
      cases hl : (putEnd m).lg with
      | true => rfl
      | false => exact absurd ⟨hok, hl⟩ h
    rw [if_pos hok, if_pos hok, if_pos hl, if_pos hl]
    exact ⟨rfl, .inr ⟨rfl, hok, hl⟩⟩
  · rw [if_neg hok, if_neg hok]
    exact ⟨rfl, .inl ⟨rfl, by simpa using hok⟩⟩
end Go.Proofs.Ytjklgdpffmaamaa.Wm

namespace Go.Proofs.Ytjklgdpffmaamaa.Wm
open Go.RowKit Go.PlainAid Go.Proofs.Ytjklgdpffmaamaa.Base
open Go.Proofs.YtjklgdpffmaamaaW.PrintWords (ReadsRow add_field)
set_option linter.unusedVariables false
theorem qcells_of {α : Type} (f : α → Qn) {R : α → List Value → Prop} {w : World} {A : Option Addr} {l : List α} (h : ReadsRow R 3 w A l.length l) (hR : ∀ x cs, R x cs → cs = [.string (f x).name, .int .i64 (f x).type, .int .i64 (f x).cls]) : QCells w A (l.map f) := by
  rcases Nat.eq_zero_or_pos l.length with h0 | h0
  · exact .inl (by rw [List.length_map]; exact h0)
  · obtain ⟨ad, e, hc⟩ := h.2.2 h0
    refine .inr ⟨ad, e, fun j hj => ?_⟩
    rw [List.length_map] at hj
    obtain ⟨c, _, hr, hcell⟩ := hc j _ (List.getElem?_eq_getElem hj)
    obtain rfl := hR _ _ hr
    have eg : (l.map f).getD j zQ = f l[j] := by rw [List.getD_eq_getElem?_getD, List.getElem?_map, List.getElem?_eq_getElem hj]; rfl
    rw [eg]
    exact ⟨hcell 0 _ rfl, by rw [← add_field _ _ 1 (by omega)]; exact hcell 1 _ rfl, by rw [← add_field _ _ 2 (by omega)]; exact hcell 2 _ rfl⟩
theorem rcells_of {α : Type} (f : α → Rr) {R : α → List Value → Prop} {w : World} {A : Option Addr} {l : List α} (h : ReadsRow R 5 w A l.length l) (hR : ∀ x cs, R x cs → cs = [.string (f x).name, .int .i64 (f x).type, .int .i64 (f x).cls, .int .i64 (f x).ttl, .string (f x).data]) : RCells w A (l.map f) := by
  rcases Nat.eq_zero_or_pos l.length with h0 | h0
  · exact .inl (by rw [List.length_map]; exact h0)
  · obtain ⟨ad, e, hc⟩ := h.2.2 h0
    refine .inr ⟨ad, e, fun j hj => ?_⟩
    rw [List.length_map] at hj
    obtain ⟨c, _, hr, hcell⟩ := hc j _ (List.getElem?_eq_getElem hj)
    obtain rfl := hR _ _ hr
    have eg : (l.map f).getD j zR = f l[j] := by rw [List.getD_eq_getElem?_getD, List.getElem?_map, List.getElem?_eq_getElem hj]; rfl
    rw [eg]
    exact ⟨hcell 0 _ rfl, by rw [← add_field _ _ 1 (by omega)]; exact hcell 1 _ rfl, by rw [← add_field _ _ 2 (by omega)]; exact hcell 2 _ rfl, by rw [← add_field _ _ 3 (by omega)]; exact hcell 3 _ rfl, by rw [← add_field _ _ 4 (by omega)]; exact hcell 4 _ rfl⟩
def smallB (rs : List Rr) : Bool := rs.all fun r => decide (r.data.size ≤ 9223372036854775000)
theorem small_of {rs : List Rr} (h : smallB rs = true) : small rs := by
  intro r hr
  have := List.all_eq_true.1 h r hr
  simpa using this
/-- A message without its places. -/
def msgOf (h : Hd.Head) (qs : List Qn) (an ns ar : List Rr) : MsgV := ⟨h, none, 0, qs, none, 0, an, none, 0, ns, none, 0, ar⟩
end Go.Proofs.Ytjklgdpffmaamaa.Wm

namespace Go.Proofs.Ytjklgdpffmaamaa.Wm
open Go.RowKit Go.PlainAid Go.Proofs.Ytjklgdpffmaamaa.Base
open Go.Proofs.YtjklgdpffmaamaaW.PrintWords (LeO Kd Reps OwnRow)
set_option linter.unusedVariables false
theorem reps_cons {α : Type} {R : α → List Value → Prop} {size : Nat} {ps : List α} {cs c : List Value} {p : α} (hp : R p c) (hc : c.length = size) (h : Reps R size ps cs) : Reps R size (p :: ps) (c ++ cs) := by
  refine ⟨by rw [List.length_append, h.1, hc, List.length_cons, Nat.add_mul, Nat.one_mul, Nat.add_comm], fun j q hq => ?_⟩
  cases j with
  | zero =>
    obtain rfl : p = q := by simpa using hq
    rw [Nat.zero_mul, List.drop_zero, ← hc, List.take_left']
    · exact hp
    · rfl
  | succ j =>
    have := h.2 j q (by simpa using hq)
    have e : (c ++ cs).drop ((j + 1) * size) = cs.drop (j * size) := by
      rw [Nat.add_mul, Nat.one_mul, Nat.add_comm, ← List.drop_drop, ← hc, List.drop_left']
      rfl
    rw [e]
    exact this
theorem qkd {α : Type} (d : Kd α) (e : Nat) (g : Qn → α) (hM : ∀ w base ok q, d.M w base ok (g q) (cellQ q).toList) (hsz : d.sz = 3) {w : World} {b : Nat} {ok : Nat → Prop} {v : Value} {qs : List Qn} (h : w.ownsRow b e 3 v qs.length (cellsQ qs)) (hok : ∀ k, v.ownBlock = some k → ok k) : Kd.R d e w b ok v (qs.map g) := by
  refine ⟨hok, cellsQ qs, by rw [hsz, List.length_map]; exact h, ?_⟩
  rw [hsz]
  clear h
  induction qs with
  | nil => exact Reps.none _ _
  | cons q qs ih => exact reps_cons (hM _ _ _ q) rfl ih
theorem rkd {α : Type} (d : Kd α) (e : Nat) (g : Rr → α) (hM : ∀ w base ok q, d.M w base ok (g q) (cellR q).toList) (hsz : d.sz = 5) {w : World} {b : Nat} {ok : Nat → Prop} {v : Value} {qs : List Rr} (h : w.ownsRow b e 5 v qs.length (cellsR qs)) (hok : ∀ k, v.ownBlock = some k → ok k) : Kd.R d e w b ok v (qs.map g) := by
  refine ⟨hok, cellsR qs, by rw [hsz, List.length_map]; exact h, ?_⟩
  rw [hsz]
  clear h
  induction qs with
  | nil => exact Reps.none _ _
  | cons q qs ih => exact reps_cons (hM _ _ _ q) rfl ih
end Go.Proofs.Ytjklgdpffmaamaa.Wm

namespace Go.Proofs.Ytjklgdpffmaamaa.Wm
open Go.RowKit Go.PlainAid Go.Proofs.Ytjklgdpffmaamaa.Base Go.Proofs.Ytjklgdpffmaamaa.Oct Go.Proofs.Ytjklgdpffmaamaa.Nm Go.Proofs.Ytjklgdpffmaamaa.Wr Go.Proofs.Ytjklgdpffmaamaa.PCm Go.Proofs.Ytjklgdpffmaamaa.CompS Go.Proofs.Ytjklgdpffmaamaa.Pu
open Go.Proofs.YtjklgdpffmaamaaW.PrintWords (Ev bytesOf bytesOf_length LeO)
set_option linter.unusedVariables false
/-- What was read: an error, or a message that may be written. -/
def Tells (s : ByteArray) (g : Got) : Prop :=
  (g = got0 (if 4096 < s.size then 701 else 700)) ∨
  (g.e = 0 ∧ s.size ≤ 4096 ∧ putOk (msgOf g.h g.qs g.an g.ns g.ar) = true ∧ ∀ U : ByteArray, 0 < U.size → (s ++ U).size ≤ 4096 → Ev (fun k => getV k (s ++ U)) (got0 700))
theorem getV_cases (s : ByteArray) : ∃ g : Got, Ev (fun k => getV k s) g ∧ Tells s g := by
  by_cases h4 : 4096 < s.size
  · exact ⟨got0 701, Ev.pos h4 (Ev.now _), .inl (by rw [if_pos h4])⟩
  by_cases h12 : s.size < 12
  · exact ⟨got0 700, Ev.neg h4 (Ev.pos h12 (Ev.now _)), .inl (by rw [if_neg h4])⟩
  have hS : s.size ≤ 16000 := by omega
  have bad : Ev (fun k => getV k s) (got0 700) → ∃ g : Got, Ev (fun k => getV k s) g ∧ Tells s g := fun h => ⟨_, h, .inl (by rw [if_neg h4])⟩
  have d4 := be2_bd s 4
  have d6 := be2_bd s 6
  have d8 := be2_bd s 8
  have d10 := be2_bd s 10
  rcases listQ_cases hS (be2 s 4).toNat 12 (by omega) with ⟨o, j, h⟩ | ⟨oq, x1, ho1, hn1, hm1, hl1, h1⟩
  · refine bad (Ev.neg h4 (Ev.neg h12 (Ev.bind h ?_)))
    exact Ev.bind (Ev.some _ fun k => listR_badstart _ _) (Ev.bind (Ev.some _ fun k => listR_badstart _ _) (Ev.bind (Ev.some _ fun k => listR_badstart _ _) (Ev.pos rfl (Ev.now _))))
  have k1 := h1 ⟨#[]⟩ (by rw [app_nil]; exact hS)
  rw [app_nil] at k1
  rcases listR_cases hS (be2 s 6).toNat x1 hl1 with ⟨o, j, h⟩ | ⟨oa, x2, ho2, hn2, hm2, hl2, h2⟩
  · refine bad (Ev.neg h4 (Ev.neg h12 (Ev.bind k1 (Ev.bind h ?_))))
    exact Ev.bind (Ev.some _ fun k => listR_badstart _ _) (Ev.bind (Ev.some _ fun k => listR_badstart _ _) (Ev.pos rfl (Ev.now _)))
  have k2 := h2 ⟨#[]⟩ (by rw [app_nil]; exact hS)
  rw [app_nil] at k2
  rcases listR_cases hS (be2 s 8).toNat x2 hl2 with ⟨o, j, h⟩ | ⟨on, x3, ho3, hn3, hm3, hl3, h3⟩
  · refine bad (Ev.neg h4 (Ev.neg h12 (Ev.bind k1 (Ev.bind k2 (Ev.bind h ?_)))))
    exact Ev.bind (Ev.some _ fun k => listR_badstart _ _) (Ev.pos rfl (Ev.now _))
  have k3 := h3 ⟨#[]⟩ (by rw [app_nil]; exact hS)
  rw [app_nil] at k3
  rcases listR_cases hS (be2 s 10).toNat x3 hl3 with ⟨o, j, h⟩ | ⟨orr, x4, ho4, hn4, hm4, hl4, h4'⟩
  · refine bad (Ev.neg h4 (Ev.neg h12 (Ev.bind k1 (Ev.bind k2 (Ev.bind k3 (Ev.bind h ?_))))))
    exact Ev.pos rfl (Ev.now _)
  have k4 := h4' ⟨#[]⟩ (by rw [app_nil]; exact hS)
  rw [app_nil] at k4
  by_cases hx : x4 = s.size
  · refine ⟨⟨Hd.getH s, oq, oa, on, orr, 0⟩, Ev.neg h4 (Ev.neg h12 (Ev.bind k1 (Ev.bind k2 (Ev.bind k3 (Ev.bind k4 (Ev.neg (by simp; omega) (Ev.now _))))))), .inr ⟨rfl, by omega, ?_, fun U hU hz => ?_⟩⟩
    · unfold putOk hOk
      rw [Bool.and_eq_true]
      constructor
      · have := Hd.getH_may s
        show Hd.mayB (Hd.getH s) (oq.length : Int) (oa.length : Int) (on.length : Int) (orr.length : Int) = true
        rw [show (oq.length : Int) = be2 s 4 by omega, show (oa.length : Int) = be2 s 6 by omega, show (on.length : Int) = be2 s 8 by omega, show (orr.length : Int) = be2 s 10 by omega]
        exact this
      · show fitsB oq oa on orr = true
        unfold fitsB
        simp only [Bool.and_eq_true, List.all_eq_true, decide_eq_true_eq]
        exact ⟨⟨⟨⟨by omega, hm1⟩, by omega, hm2⟩, by omega, hm3⟩, by omega, hm4⟩
    · have zz : (s ++ U).size = s.size + U.size := ByteArray.size_append
      have z' : (s ++ U).size ≤ 16000 := by omega
      refine Ev.neg (by omega) (Ev.neg (by omega) ?_)
      rw [Hd.be2_left _ _ _ (by omega), Hd.be2_left _ _ _ (by omega), Hd.be2_left _ _ _ (by omega), Hd.be2_left _ _ _ (by omega)]
      exact Ev.bind (h1 U z') (Ev.bind (h2 U z') (Ev.bind (h3 U z') (Ev.bind (h4' U z') (Ev.pos (by simp; omega) (Ev.now _)))))
  · exact bad (Ev.neg h4 (Ev.neg h12 (Ev.bind k1 (Ev.bind k2 (Ev.bind k3 (Ev.bind k4 (Ev.pos (by simp; omega) (Ev.now _))))))))
end Go.Proofs.Ytjklgdpffmaamaa.Wm

namespace Go.Proofs.Ytjklgdpffmaamaa.Wm
open Go.RowKit Go.PlainAid Go.Proofs.Ytjklgdpffmaamaa.Base Go.Proofs.Ytjklgdpffmaamaa.Oct Go.Proofs.Ytjklgdpffmaamaa.Nm Go.Proofs.Ytjklgdpffmaamaa.Wr Go.Proofs.Ytjklgdpffmaamaa.CompS Go.Proofs.Ytjklgdpffmaamaa.Pu
open Go.Proofs.Ytjklgdpffmaamaa.PCm (comp_Name.f comp_Name.l0 comp_Data.f comp_names.f comp_names.l0 comp_shape.f)
open Go.Proofs.Ytjklgdpffmaamaa.PRf (wimpleref1_Num.f wimpleref4_Name.f wimpleref4_Data.f wimpleref4_question.f wimpleref4_record.f)
open Go.Proofs.YtjklgdpffmaamaaW.PrintWords (Ev bytesOf bytesOf_length LeO)
set_option linter.unusedVariables false
theorem rn_any {s : ByteArray} (hs : s.size ≤ 1000000) (i : Nat) : ∃ v, Ev (fun k => wimpleref1_Num.f k s (i : Int) 2) v := by
  by_cases h : i + 2 ≤ s.size
  · exact ⟨_, rnum2 hs h⟩
  · exact ⟨_, rn_cut hs (by decide) (by decide) (by omega)⟩
theorem quest_both {S : ByteArray} (hS : S.size ≤ 1000000) (i : Nat) : (∃ (q : Qn) (j : Nat) (x : ByteArray × Int × Int × Int × Bool), Ev (fun k => questV k S ⟨(i : Int), false⟩) (q, ⟨(j : Int), true⟩) ∧ Ev (fun k => wimpleref4_question.f k S (i : Int)) x ∧ x.2.2.2.2 = false) ∨
    ∃ (q : Qn) (nx : Nat), nx ≤ S.size ∧ Ev (fun k => questV k S ⟨(i : Int), false⟩) (q, ⟨(nx : Int), false⟩) ∧ Ev (fun k => wimpleref4_question.f k S (i : Int)) (q.name, q.type, q.cls, (nx : Int), true) := by
  rcases name_both hS i with ⟨k1, k2⟩ | ⟨r, nx, hr, h1, h2, k1, k2⟩
  · refine .inl ⟨zQ, i, ((⟨#[]⟩ : ByteArray), 0, 0, 0, false), ?_, ?_, rfl⟩
    · unfold questV
      exact Ev.bind k1 (Ev.pos (by simp) (Ev.now _))
    · exact Ev.bind k2 (Ev.neg (by show ¬ ((500 : Int) = 0); decide) (Ev.now _))
  · by_cases c4 : nx + 4 ≤ S.size
    · have n1 := rnum2 (s := S) (i := nx) hS (by omega)
      have n2 := rnum2 (s := S) (i := nx + 2) hS (by omega)
      have hq := quest_ev k1 c4
      have hrq : Ev (fun k => wimpleref4_question.f k S (i : Int)) (r, be2 S nx, be2 S (nx + 2), ((nx + 2 + 2 : Nat) : Int), decide (be2 S nx > 0)) := by
        refine Ev.bind k2 (Ev.pos rfl (Ev.bind n1 (Ev.bind n2 (Ev.pos rfl (Ev.pos rfl (Ev.now _))))))
      have b1 := be2_bd S nx
      by_cases ht : be2 S nx = 0
      · rw [show (be2 S nx == 0) = true by simpa using ht] at hq
        exact .inl ⟨_, _, _, hq, hrq, decide_eq_false (by omega)⟩
      · rw [show (be2 S nx == 0) = false by simpa using ht] at hq
        rw [decide_eq_true (by omega)] at hrq
        exact .inr ⟨_, nx + 4, c4, hq, hrq⟩
    · by_cases c2 : nx + 2 ≤ S.size
      · refine .inl ⟨⟨r, be2 S nx, 0⟩, nx + 2, (r, be2 S nx, 0, 0, false), ?_, ?_, rfl⟩
        · unfold questV
          refine Ev.bind k1 (Ev.neg (by simp) (Ev.some _ fun _ => ?_))
          dsimp only
          rw [num16_ok c2]
          dsimp only
          rw [num16_no (i := nx + 2) (by omega)]
          rfl
        · exact Ev.bind k2 (Ev.pos rfl (Ev.bind (rnum2 hS c2) (Ev.bind (rn_cut (i := nx + 2) hS (by decide) (by decide) (by omega)) (Ev.pos rfl (Ev.neg (by show ¬ ((300 : Int) = 0); decide) (Ev.now _))))))
      · obtain ⟨v, hv⟩ := rn_any hS 0
        refine .inl ⟨⟨r, 0, 0⟩, nx, (r, 0, v.1, v.2.1, false), ?_, ?_, rfl⟩
        · unfold questV
          refine Ev.bind k1 (Ev.neg (by simp) (Ev.some _ fun _ => ?_))
          dsimp only
          rw [num16_no c2]
          dsimp only
          rw [num_bad (.inl rfl)]
          rfl
        · exact Ev.bind k2 (Ev.pos rfl (Ev.bind (rn_cut (i := nx) hS (by decide) (by decide) (by omega)) (Ev.bind hv (Ev.neg (by show ¬ ((300 : Int) = 0); decide) (Ev.now _)))))
abbrev nor : ByteArray × Int × Int × Int × ByteArray × Int × Bool := ((⟨#[]⟩ : ByteArray), 0, 0, 0, (⟨#[]⟩ : ByteArray), 0, false)
theorem rec_both {S : ByteArray} (hS : S.size ≤ 16000) (i : Nat) : (∃ (q : Rr) (j : Nat) (x : ByteArray × Int × Int × Int × ByteArray × Int × Bool), Ev (fun k => recV k S ⟨(i : Int), false⟩) (q, ⟨(j : Int), true⟩) ∧ Ev (fun k => wimpleref4_record.f k S (i : Int)) x ∧ x.2.2.2.2.2.2 = false) ∨
    ∃ (q : Rr) (nx : Nat), nx ≤ S.size ∧ Ev (fun k => recV k S ⟨(i : Int), false⟩) (q, ⟨(nx : Int), false⟩) ∧ Ev (fun k => wimpleref4_record.f k S (i : Int)) (q.name, q.type, q.cls, q.ttl, q.data, (nx : Int), true) := by
  have hS' : S.size ≤ 1000000 := by omega
  have any0 : ∀ (j : Nat) (t : Int), ∃ y, Ev (fun k => comp_Data.f k S (j : Int) 0 t) y := fun j t => by
    obtain ⟨d, e, h, _⟩ := data_both hS' j 0 t
    exact ⟨_, h⟩
  rcases quest_both hS' i with ⟨q, j, x, k1, k2, hx⟩ | ⟨q, nx, hl, k1, k2⟩
  · have bad : ∃ (q : Rr) (j : Nat), Ev (fun k => recV k S ⟨(i : Int), false⟩) (q, ⟨(j : Int), true⟩) := by
      have e1 : recN1 S (q, ⟨(j : Int), true⟩) = (0, ⟨(j : Int), true⟩) := num_bad (.inl rfl)
      have e2 : recN2 S (q, ⟨(j : Int), true⟩) = (0, ⟨(j : Int), true⟩) := by
        unfold recN2
        rw [e1]
        exact num_bad (.inl rfl)
      obtain ⟨y, hy⟩ := any0 j q.type
      refine ⟨zR, j, ?_⟩
      unfold recV
      refine Ev.bind k1 ?_
      simp only [e1, e2]
      exact Ev.bind hy (Ev.pos (by simp) (Ev.now _))
    obtain ⟨r, j', kb⟩ := bad
    exact .inl ⟨r, j', nor, kb, Ev.bind k2 (Ev.neg (by rw [hx]; decide) (Ev.now _)), rfl⟩
  · by_cases c8 : nx + 4 ≤ S.size
    · have e1 : recN1 S (q, ⟨(nx : Int), false⟩) = (be4 S nx, ⟨((nx + 4 : Nat) : Int), false⟩) := num32_ok c8
      have n1 := rnum4 (s := S) (i := nx) hS' c8
      by_cases c10 : nx + 4 + 2 ≤ S.size
      · have n2 := rnum2 (s := S) (i := nx + 4) hS' c10
        have b2 := be2_bd S (nx + 4)
        obtain ⟨z, hz⟩ : ∃ z : Nat, be2 S (nx + 4) = (z : Int) := ⟨(be2 S (nx + 4)).toNat, by omega⟩
        have e2 : recN2 S (q, ⟨(nx : Int), false⟩) = ((z : Int), ⟨((nx + 4 + 2 : Nat) : Int), false⟩) := by
          unfold recN2
          rw [e1]
          dsimp only
          rw [num16_ok c10, hz]
        rw [hz] at n2
        obtain ⟨d, e, kd, rd⟩ := data_both hS' (nx + 4 + 2) z q.type
        have hr : Ev (fun k => wimpleref4_record.f k S (i : Int)) (q.name, q.type, q.cls, be4 S nx, d, wrap64 (((nx + 4 + 2 : Nat) : Int) + (z : Int)), (e == 0)) :=
          Ev.bind k2 (Ev.pos rfl (Ev.bind n1 (Ev.bind n2 (Ev.pos rfl (Ev.pos rfl (Ev.bind rd (Ev.now _)))))))
        by_cases he : e = 0
        · subst he
          have hb : nx + 4 + 2 + z ≤ S.size := by
            by_cases h : nx + 4 + 2 + z ≤ S.size
            · exact h
            · have := Ev.uniq kd (data_out hS' (by omega) (by omega) (show (S.size : Int) < ((nx + 4 + 2 : Nat) : Int) + (z : Int) by omega))
              exact absurd (congrArg Prod.snd this) (show ¬ (0 : Int) = 500 by decide)
          rw [Pu.w64 (by omega) (by omega), show ((nx + 4 + 2 : Nat) : Int) + (z : Int) = ((nx + 4 + 2 + z : Nat) : Int) by omega] at hr
          refine .inr ⟨⟨q.name, q.type, q.cls, be4 S nx, d⟩, nx + 4 + 2 + z, hb, ?_, hr⟩
          unfold recV
          refine Ev.bind k1 ?_
          simp only [e1, e2]
          refine Ev.bind kd (Ev.neg (by simp) ?_)
          rw [Pu.w64 (by omega) (by omega), show ((nx + 4 + 2 : Nat) : Int) + (z : Int) = ((nx + 4 + 2 + z : Nat) : Int) by omega]
          exact Ev.now _
        · refine .inl ⟨zR, nx + 4 + 2, _, ?_, hr, by simpa using he⟩
          unfold recV
          refine Ev.bind k1 ?_
          simp only [e1, e2]
          exact Ev.bind kd (Ev.pos (by simpa using he) (Ev.now _))
      · have e2 : recN2 S (q, ⟨(nx : Int), false⟩) = (0, ⟨((nx + 4 : Nat) : Int), true⟩) := by
          unfold recN2
          rw [e1]
          exact num16_no c10 false
        obtain ⟨y, hy⟩ := any0 (nx + 4) q.type
        refine .inl ⟨zR, nx + 4, nor, ?_, ?_, rfl⟩
        · unfold recV
          refine Ev.bind k1 ?_
          simp only [e1, e2]
          exact Ev.bind hy (Ev.pos (by simp) (Ev.now _))
        · exact Ev.bind k2 (Ev.pos rfl (Ev.bind n1 (Ev.bind (rn_cut (i := nx + 4) hS' (by decide) (by decide) (by omega)) (Ev.pos rfl (Ev.neg (by show ¬ ((300 : Int) = 0); decide) (Ev.now _))))))
    · have e1 : recN1 S (q, ⟨(nx : Int), false⟩) = (0, ⟨(nx : Int), true⟩) := num32_no c8 false
      have e2 : recN2 S (q, ⟨(nx : Int), false⟩) = (0, ⟨(nx : Int), true⟩) := by
        unfold recN2
        rw [e1]
        exact num_bad (.inl rfl)
      obtain ⟨y, hy⟩ := any0 nx q.type
      obtain ⟨v, hv⟩ := rn_any hS' 0
      refine .inl ⟨zR, nx, nor, ?_, ?_, rfl⟩
      · unfold recV
        refine Ev.bind k1 ?_
        simp only [e1, e2]
        exact Ev.bind hy (Ev.pos (by simp) (Ev.now _))
      · exact Ev.bind k2 (Ev.pos rfl (Ev.bind (rn_cut (i := nx) hS' (by decide) (by decide) (by omega)) (Ev.bind hv (Ev.neg (by show ¬ ((300 : Int) = 0); decide) (Ev.now _)))))
/-! ### Lists -/
theorem loopQ_both {S : ByteArray} (hS : S.size ≤ 16000) : ∀ (n i : Nat) (acc : List Qn), i ≤ S.size → (∃ (o : List Qn) (j : Nat), Ev (fun k => loopQ k S n ⟨(i : Int), false⟩ acc) (o, ⟨(j : Int), true⟩) ∧ Ev (fun k => rQ k S n (i : Int) acc) none) ∨
    ∃ (o : List Qn) (nx : Nat), nx ≤ S.size ∧ Ev (fun k => loopQ k S n ⟨(i : Int), false⟩ acc) (o, ⟨(nx : Int), false⟩) ∧ Ev (fun k => rQ k S n (i : Int) acc) (some (o, (nx : Int))) := by
  intro n
  induction n with
  | zero => intro i acc hi; exact .inr ⟨acc, i, hi, Ev.now _, Ev.now _⟩
  | succ n ih =>
    intro i acc hi
    rcases quest_both (S := S) (by omega) i with ⟨q, j, x, h, k, hx⟩ | ⟨q, nx, hl, h, k⟩
    · refine .inl ⟨acc ++ [q], j, ?_, Ev.bind k (Ev.neg (by rw [hx]; decide) (Ev.now _))⟩
      show Ev (fun k => if (false : Bool) = true then _ else _) _
      exact Ev.neg (by decide) (Ev.bind h (Ev.some _ fun k => loopQ_bad n _ rfl))
    · rcases ih nx (acc ++ [q]) hl with ⟨o, j, a, b⟩ | ⟨o, nx2, hl2, a, b⟩
      · refine .inl ⟨o, j, ?_, Ev.bind k (Ev.pos rfl b)⟩
        show Ev (fun k => if (false : Bool) = true then _ else _) _
        exact Ev.neg (by decide) (Ev.bind h a)
      · refine .inr ⟨o, nx2, hl2, ?_, Ev.bind k (Ev.pos rfl b)⟩
        show Ev (fun k => if (false : Bool) = true then _ else _) _
        exact Ev.neg (by decide) (Ev.bind h a)
theorem loopR_both {S : ByteArray} (hS : S.size ≤ 16000) : ∀ (n i : Nat) (acc : List Rr), i ≤ S.size → (∃ (o : List Rr) (j : Nat), Ev (fun k => loopR k S n ⟨(i : Int), false⟩ acc) (o, ⟨(j : Int), true⟩) ∧ Ev (fun k => rR k S n (i : Int) acc) none) ∨
    ∃ (o : List Rr) (nx : Nat), nx ≤ S.size ∧ Ev (fun k => loopR k S n ⟨(i : Int), false⟩ acc) (o, ⟨(nx : Int), false⟩) ∧ Ev (fun k => rR k S n (i : Int) acc) (some (o, (nx : Int))) := by
  intro n
  induction n with
  | zero => intro i acc hi; exact .inr ⟨acc, i, hi, Ev.now _, Ev.now _⟩
  | succ n ih =>
    intro i acc hi
    rcases rec_both (S := S) hS i with ⟨q, j, x, h, k, hx⟩ | ⟨q, nx, hl, h, k⟩
    · refine .inl ⟨acc ++ [q], j, ?_, Ev.bind k (Ev.neg (by rw [hx]; decide) (Ev.now _))⟩
      show Ev (fun k => if (false : Bool) = true then _ else _) _
      exact Ev.neg (by decide) (Ev.bind h (Ev.some _ fun k => loopR_bad n _ rfl))
    · rcases ih nx (acc ++ [q]) hl with ⟨o, j, a, b⟩ | ⟨o, nx2, hl2, a, b⟩
      · refine .inl ⟨o, j, ?_, Ev.bind k (Ev.pos rfl b)⟩
        show Ev (fun k => if (false : Bool) = true then _ else _) _
        exact Ev.neg (by decide) (Ev.bind h a)
      · refine .inr ⟨o, nx2, hl2, ?_, Ev.bind k (Ev.pos rfl b)⟩
        show Ev (fun k => if (false : Bool) = true then _ else _) _
        exact Ev.neg (by decide) (Ev.bind h a)
/-- So many questions, records: none, in the document's way: too many, or one was none. -/
theorem listQ_both {S : ByteArray} (hS : S.size ≤ 16000) (x : Int) (hx : 0 ≤ x) (i : Nat) (hi : i ≤ S.size) :
    (∃ (o : List Qn) (j : Nat), Ev (fun k => listQ k S x.toNat ⟨(i : Int), false⟩) (o, ⟨(j : Int), true⟩) ∧ ∀ f : Nat → List Qn × Int → Option Got, Ev (fun k => many4 x (andThen (rQ k S x.toNat (i : Int) []) (f k))) (got0 700)) ∨
    ∃ (o : List Qn) (nx : Nat), nx ≤ S.size ∧ Ev (fun k => listQ k S x.toNat ⟨(i : Int), false⟩) (o, ⟨(nx : Int), false⟩) ∧ ∀ (f : Nat → List Qn × Int → Option Got) (r : Got), Ev (fun k => f k (o, (nx : Int))) r → Ev (fun k => many4 x (andThen (rQ k S x.toNat (i : Int) []) (f k))) r := by
  by_cases hn : 64 < x
  · refine .inl ⟨[], i, ?_, fun f => Ev.pos hn (Ev.now _)⟩
    refine Ev.some _ fun k => ?_
    unfold listQ
    rw [show (false || decide (64 < x.toNat)) = true by simp; omega]
    exact loopQ_bad _ _ rfl
  · have e : ∀ k, listQ k S x.toNat ⟨(i : Int), false⟩ = loopQ k S x.toNat ⟨(i : Int), false⟩ [] := fun k => by
      unfold listQ
      rw [show (false || decide (64 < x.toNat)) = false by simp; omega]
    simp only [e]
    rcases loopQ_both hS x.toNat i [] hi with ⟨o, j, a, b⟩ | ⟨o, nx, hl, a, b⟩
    · refine .inl ⟨o, j, a, fun f => Ev.neg hn ?_⟩
      exact Ev.bind b (Ev.now _)
    · refine .inr ⟨o, nx, hl, a, fun f r hr => Ev.neg hn ?_⟩
      exact Ev.bind b hr
theorem listR_both {S : ByteArray} (hS : S.size ≤ 16000) (x : Int) (hx : 0 ≤ x) (i : Nat) (hi : i ≤ S.size) :
    (∃ (o : List Rr) (j : Nat), Ev (fun k => listR k S x.toNat ⟨(i : Int), false⟩) (o, ⟨(j : Int), true⟩) ∧ ∀ f : Nat → List Rr × Int → Option Got, Ev (fun k => many4 x (andThen (rR k S x.toNat (i : Int) []) (f k))) (got0 700)) ∨
    ∃ (o : List Rr) (nx : Nat), nx ≤ S.size ∧ Ev (fun k => listR k S x.toNat ⟨(i : Int), false⟩) (o, ⟨(nx : Int), false⟩) ∧ ∀ (f : Nat → List Rr × Int → Option Got) (r : Got), Ev (fun k => f k (o, (nx : Int))) r → Ev (fun k => many4 x (andThen (rR k S x.toNat (i : Int) []) (f k))) r := by
  by_cases hn : 64 < x
  · refine .inl ⟨[], i, ?_, fun f => Ev.pos hn (Ev.now _)⟩
    refine Ev.some _ fun k => ?_
    unfold listR
    rw [show (false || decide (64 < x.toNat)) = true by simp; omega]
    exact loopR_bad _ _ rfl
  · have e : ∀ k, listR k S x.toNat ⟨(i : Int), false⟩ = loopR k S x.toNat ⟨(i : Int), false⟩ [] := fun k => by
      unfold listR
      rw [show (false || decide (64 < x.toNat)) = false by simp; omega]
    simp only [e]
    rcases loopR_both hS x.toNat i [] hi with ⟨o, j, a, b⟩ | ⟨o, nx, hl, a, b⟩
    · refine .inl ⟨o, j, a, fun f => Ev.neg hn ?_⟩
      exact Ev.bind b (Ev.now _)
    · refine .inr ⟨o, nx, hl, a, fun f r hr => Ev.neg hn ?_⟩
      exact Ev.bind b hr
/-- Any bytes: the program and the document say the same. -/
theorem get_both (s : ByteArray) : ∃ g : Got, Ev (fun k => getV k s) g ∧ Ev (fun k => rGetV k s) g := by
  by_cases h4 : 4096 < s.size
  · exact ⟨got0 701, Ev.pos h4 (Ev.now _), Ev.pos h4 (Ev.now _)⟩
  by_cases h12 : s.size < 12
  · exact ⟨got0 700, Ev.neg h4 (Ev.pos h12 (Ev.now _)), Ev.neg h4 (Ev.pos h12 (Ev.now _))⟩
  have hS : s.size ≤ 16000 := by omega
  have d4 := (be2_bd s 4).1
  have d6 := (be2_bd s 6).1
  have d8 := (be2_bd s 8).1
  have d10 := (be2_bd s 10).1
  rcases listQ_both hS (be2 s 4) d4 12 (by omega) with ⟨o, j, h, k⟩ | ⟨oq, x1, hl1, h1, k1⟩
  · refine ⟨got0 700, Ev.neg h4 (Ev.neg h12 (Ev.bind h ?_)), Ev.neg h4 (Ev.neg h12 (k _))⟩
    exact Ev.bind (Ev.some _ fun k => listR_badstart _ _) (Ev.bind (Ev.some _ fun k => listR_badstart _ _) (Ev.bind (Ev.some _ fun k => listR_badstart _ _) (Ev.pos rfl (Ev.now _))))
  rcases listR_both hS (be2 s 6) d6 x1 hl1 with ⟨o, j, h, k⟩ | ⟨oa, x2, hl2, h2, k2⟩
  · refine ⟨got0 700, Ev.neg h4 (Ev.neg h12 (Ev.bind h1 (Ev.bind h ?_))), Ev.neg h4 (Ev.neg h12 (k1 _ _ (k _)))⟩
    exact Ev.bind (Ev.some _ fun k => listR_badstart _ _) (Ev.bind (Ev.some _ fun k => listR_badstart _ _) (Ev.pos rfl (Ev.now _)))
  rcases listR_both hS (be2 s 8) d8 x2 hl2 with ⟨o, j, h, k⟩ | ⟨on, x3, hl3, h3, k3⟩
  · refine ⟨got0 700, Ev.neg h4 (Ev.neg h12 (Ev.bind h1 (Ev.bind h2 (Ev.bind h ?_)))), Ev.neg h4 (Ev.neg h12 (k1 _ _ (k2 _ _ (k _))))⟩
    exact Ev.bind (Ev.some _ fun k => listR_badstart _ _) (Ev.pos rfl (Ev.now _))
  rcases listR_both hS (be2 s 10) d10 x3 hl3 with ⟨o, j, h, k⟩ | ⟨orr, x4, hl4, h4', k4⟩
  · refine ⟨got0 700, Ev.neg h4 (Ev.neg h12 (Ev.bind h1 (Ev.bind h2 (Ev.bind h3 (Ev.bind h ?_))))), Ev.neg h4 (Ev.neg h12 (k1 _ _ (k2 _ _ (k3 _ _ (k _)))))⟩
    exact Ev.pos rfl (Ev.now _)
  by_cases hx : x4 = s.size
  · exact ⟨⟨Hd.getH s, oq, oa, on, orr, 0⟩, Ev.neg h4 (Ev.neg h12 (Ev.bind h1 (Ev.bind h2 (Ev.bind h3 (Ev.bind h4' (Ev.neg (by simp; omega) (Ev.now _))))))),
      Ev.neg h4 (Ev.neg h12 (k1 _ _ (k2 _ _ (k3 _ _ (k4 _ _ (Ev.neg (by simp; omega) (Ev.now _)))))))⟩
  · exact ⟨got0 700, Ev.neg h4 (Ev.neg h12 (Ev.bind h1 (Ev.bind h2 (Ev.bind h3 (Ev.bind h4' (Ev.pos (by simp; omega) (Ev.now _))))))),
      Ev.neg h4 (Ev.neg h12 (k1 _ _ (k2 _ _ (k3 _ _ (k4 _ _ (Ev.pos (by simp; omega) (Ev.now _)))))))⟩
/-- What the program reads, the document reads. -/
theorem rget_of {s : ByteArray} {g : Got} (h : Ev (fun k => getV k s) g) : Ev (fun k => rGetV k s) g := by
  obtain ⟨g', a, b⟩ := get_both s
  rw [Ev.uniq h a]
  exact b
end Go.Proofs.Ytjklgdpffmaamaa.Wm

namespace Go.Proofs.Ytjklgdpffmaamaa.PRm
open Go.RowKit Go.Proofs.YtjklgdpffmaamaaW.PrintWords Go.Proofs.YtjklgdpffmaamaaW.PrintLast Go.Proofs.YtjklgdpffmaamaaW.PrintMore
attribute [local go_sem] max2_int min2_int max_two min_two max_three min_three max_four min_four   -- for this text's walks alone
set_option linter.unusedVariables false
set_option linter.unusedSimpArgs false

def errW : Option Int → Value
  | none => .nilIface
  | some c => .iface 0 (.int .i64 c)
theorem errW_none : errW none = .nilIface := rfl
theorem errW_some (c : Int) : errW (some c) = .iface 0 (.int .i64 c) := rfl

-- the values' own types

end Go.Proofs.Ytjklgdpffmaamaa.PRm

namespace Go.Proofs.Ytjklgdpffmaamaa.PRm
open Go.RowKit Go.Proofs.YtjklgdpffmaamaaW.PrintWords Go.Proofs.YtjklgdpffmaamaaW.PrintLast Go.Proofs.YtjklgdpffmaamaaW.PrintMore
attribute [local go_sem] max2_int min2_int max_two min_two max_three min_three max_four min_four   -- for this text's walks alone
set_option linter.unusedVariables false
set_option linter.unusedSimpArgs false

/-! ### wimpleref1_May: function 32 -/
def wimpleref1_May.f (a0 : ByteArray) : Option (Bool) := some (Go.Proofs.Ytjklgdpffmaamaa.Nm.nameB a0)
set_option maxHeartbeats 8000000 in
set_option maxRecDepth 100000 in
theorem wimpleref1_May.calls (a0 : ByteArray) (r : Bool) (w : World) (h : wimpleref1_May.f a0 = some r) :
    Calls Try.prog 32 #[.string a0] w fun e w' => e = .returned (.bool r) ∧ Below w.heap.size w w' := by
  unfold wimpleref1_May.f at h
  simp only [Option.some.injEq] at h
  subst h
  exact Go.Proofs.Ytjklgdpffmaamaa.Nm.rmay a0 w

/-! ### wimpleref4_short: function 52 -/
def wimpleref4_short.f (a0 : Int) : Option (Bool) := if a0 ≥ 0 then (some (decide (a0 ≤ 65535))) else (some false)
set_option maxHeartbeats 8000000 in
set_option maxRecDepth 100000 in
theorem wimpleref4_short.calls (a0 : Int) (r : Bool) (w : World) (h : wimpleref4_short.f a0 = some r) :
    Calls Try.prog 52 #[.int .i64 a0] w fun e w' => e = .returned (.bool r) ∧ Drawn0 w w' := by
  have H : (if a0 ≥ 0 then (some (decide (a0 ≤ 65535))) else (some false)) = some r := h
  clear h
  by_cases c2 : a0 ≥ 0
  · rw [if_pos c2] at H
    have c2b0 : decide (0 ≤ a0) = true := decide_eq_true c2
    clear c2
    obtain rfl := Option.some.inj H
    go_enter Try.func52, Try.ntmps52
    go_wp2
    go_ret
    exact ⟨by first | rfl | (simp; done) | (simp [*]; done), by repeat (first | exact Drawn0.refl _ | apply Drawn0.step)⟩
  · rw [if_neg c2] at H
    have c2b0 : decide (0 ≤ a0) = false := decide_eq_false c2
    clear c2
    obtain rfl := Option.some.inj H
    go_enter Try.func52, Try.ntmps52
    go_wp2
    go_ret
    exact ⟨by first | rfl | (simp; done) | (simp [*]; done), by repeat (first | exact Drawn0.refl _ | apply Drawn0.step)⟩

/-! ### wimpleref4_wide: function 53 -/
def wimpleref4_wide.f (a0 : Int) : Option (Bool) := if a0 ≥ 0 then (some (decide (a0 ≤ 4294967295))) else (some false)
set_option maxHeartbeats 8000000 in
set_option maxRecDepth 100000 in
theorem wimpleref4_wide.calls (a0 : Int) (r : Bool) (w : World) (h : wimpleref4_wide.f a0 = some r) :
    Calls Try.prog 53 #[.int .i64 a0] w fun e w' => e = .returned (.bool r) ∧ Drawn0 w w' := by
  have H : (if a0 ≥ 0 then (some (decide (a0 ≤ 4294967295))) else (some false)) = some r := h
  clear h
  by_cases c2 : a0 ≥ 0
  · rw [if_pos c2] at H
    have c2b0 : decide (0 ≤ a0) = true := decide_eq_true c2
    clear c2
    obtain rfl := Option.some.inj H
    go_enter Try.func53, Try.ntmps53
    go_wp2
    go_ret
    exact ⟨by first | rfl | (simp; done) | (simp [*]; done), by repeat (first | exact Drawn0.refl _ | apply Drawn0.step)⟩
  · rw [if_neg c2] at H
    have c2b0 : decide (0 ≤ a0) = false := decide_eq_false c2
    clear c2
    obtain rfl := Option.some.inj H
    go_enter Try.func53, Try.ntmps53
    go_wp2
    go_ret
    exact ⟨by first | rfl | (simp; done) | (simp [*]; done), by repeat (first | exact Drawn0.refl _ | apply Drawn0.step)⟩

/-! ### wimpleref4_DataMay: function 98 -/
def wimpleref4_DataMay.f (a0 : Int) (a1 : ByteArray) : Option (Bool) := if a1.size ≤ 9223372036854775000 then some (Go.Proofs.Ytjklgdpffmaamaa.Rd.mayD a0 a1) else none
set_option maxHeartbeats 8000000 in
set_option maxRecDepth 100000 in
theorem wimpleref4_DataMay.calls (a0 : Int) (a1 : ByteArray) (r : Bool) (w : World) (h : wimpleref4_DataMay.f a0 a1 = some r) :
    Calls Try.prog 98 #[.int .i64 a0, .string a1] w fun e w' => e = .returned (.bool r) ∧ Below w.heap.size w w' := by
  unfold wimpleref4_DataMay.f at h
  split at h
  · rename_i hs
    simp only [Option.some.injEq] at h
    subst h
    exact Go.Proofs.Ytjklgdpffmaamaa.Rd.rdmay a0 a1 w hs
  · cases h

/-! ### wimpleref4_rrMay: function 69 -/
def wimpleref4_rrMay.f (a0_0 : ByteArray) (a0_1 : Int) (a0_2 : Int) (a0_3 : Int) (a0_4 : ByteArray) : Option (Bool) := (wimpleref1_May.f a0_0).bind fun t110 => (if t110 = true then ((wimpleref4_short.f a0_1).bind fun t111 => (if t111 = true then (if a0_1 > 0 then ((wimpleref4_short.f a0_2).bind fun t112 => (if t112 = true then ((wimpleref4_wide.f a0_3).bind fun t113 => (if t113 = true then ((wimpleref4_DataMay.f a0_1 a0_4).bind fun t114 => (some t114)) else (some false))) else (some false))) else (some false)) else (some false))) else (some false))
set_option maxHeartbeats 8000000 in
set_option maxRecDepth 100000 in
theorem wimpleref4_rrMay.calls (a0_0 : ByteArray) (a0_1 : Int) (a0_2 : Int) (a0_3 : Int) (a0_4 : ByteArray) (r : Bool) (w : World) (h : wimpleref4_rrMay.f a0_0 a0_1 a0_2 a0_3 a0_4 = some r) :
    Calls Try.prog 69 #[.agg #[.string a0_0, .int .i64 a0_1, .int .i64 a0_2, .int .i64 a0_3, .string a0_4]] w fun e w' => e = .returned (.bool r) ∧ Below w.heap.size w w' := by
  have hu53 := Try.underlying53
  have HB := Aside0.mk (Below.refl w.heap.size w)
  have H : ((wimpleref1_May.f a0_0).bind fun t110 => (if t110 = true then ((wimpleref4_short.f a0_1).bind fun t111 => (if t111 = true then (if a0_1 > 0 then ((wimpleref4_short.f a0_2).bind fun t112 => (if t112 = true then ((wimpleref4_wide.f a0_3).bind fun t113 => (if t113 = true then ((wimpleref4_DataMay.f a0_1 a0_4).bind fun t114 => (some t114)) else (some false))) else (some false))) else (some false)) else (some false))) else (some false))) = some r := h
  clear h
  replace H := Option.bind_eq_some_iff.mp H
  obtain ⟨t110, A20, H⟩ := H
  replace H : (if t110 = true then ((wimpleref4_short.f a0_1).bind fun t111 => (if t111 = true then (if a0_1 > 0 then ((wimpleref4_short.f a0_2).bind fun t112 => (if t112 = true then ((wimpleref4_wide.f a0_3).bind fun t113 => (if t113 = true then ((wimpleref4_DataMay.f a0_1 a0_4).bind fun t114 => (some t114)) else (some false))) else (some false))) else (some false)) else (some false))) else (some false)) = some r := H
  have A2 := Aside0.mk A20
  clear A20
  by_cases c3 : t110 = true
  · subst c3
    have H1 : ((wimpleref4_short.f a0_1).bind fun t111 => (if t111 = true then (if a0_1 > 0 then ((wimpleref4_short.f a0_2).bind fun t112 => (if t112 = true then ((wimpleref4_wide.f a0_3).bind fun t113 => (if t113 = true then ((wimpleref4_DataMay.f a0_1 a0_4).bind fun t114 => (some t114)) else (some false))) else (some false))) else (some false)) else (some false))) = some r := by rw [if_pos rfl] at H; exact H
    clear H
    have H := H1
    clear H1
    replace H := Option.bind_eq_some_iff.mp H
    obtain ⟨t111, A40, H⟩ := H
    replace H : (if t111 = true then (if a0_1 > 0 then ((wimpleref4_short.f a0_2).bind fun t112 => (if t112 = true then ((wimpleref4_wide.f a0_3).bind fun t113 => (if t113 = true then ((wimpleref4_DataMay.f a0_1 a0_4).bind fun t114 => (some t114)) else (some false))) else (some false))) else (some false)) else (some false)) = some r := H
    have A4 := Aside0.mk A40
    clear A40
    by_cases c5 : t111 = true
    · subst c5
      have H1 : (if a0_1 > 0 then ((wimpleref4_short.f a0_2).bind fun t112 => (if t112 = true then ((wimpleref4_wide.f a0_3).bind fun t113 => (if t113 = true then ((wimpleref4_DataMay.f a0_1 a0_4).bind fun t114 => (some t114)) else (some false))) else (some false))) else (some false)) = some r := by rw [if_pos rfl] at H; exact H
      clear H
      have H := H1
      clear H1
      by_cases c6 : a0_1 > 0
      · rw [if_pos c6] at H
        have c6b0 : decide (0 < a0_1) = true := decide_eq_true c6
        clear c6
        replace H := Option.bind_eq_some_iff.mp H
        obtain ⟨t112, A70, H⟩ := H
        replace H : (if t112 = true then ((wimpleref4_wide.f a0_3).bind fun t113 => (if t113 = true then ((wimpleref4_DataMay.f a0_1 a0_4).bind fun t114 => (some t114)) else (some false))) else (some false)) = some r := H
        have A7 := Aside0.mk A70
        clear A70
        by_cases c8 : t112 = true
        · subst c8
          have H1 : ((wimpleref4_wide.f a0_3).bind fun t113 => (if t113 = true then ((wimpleref4_DataMay.f a0_1 a0_4).bind fun t114 => (some t114)) else (some false))) = some r := by rw [if_pos rfl] at H; exact H
          clear H
          have H := H1
          clear H1
          replace H := Option.bind_eq_some_iff.mp H
          obtain ⟨t113, A90, H⟩ := H
          replace H : (if t113 = true then ((wimpleref4_DataMay.f a0_1 a0_4).bind fun t114 => (some t114)) else (some false)) = some r := H
          have A9 := Aside0.mk A90
          clear A90
          by_cases c10 : t113 = true
          · subst c10
            have H1 : ((wimpleref4_DataMay.f a0_1 a0_4).bind fun t114 => (some t114)) = some r := by rw [if_pos rfl] at H; exact H
            clear H
            have H := H1
            clear H1
            replace H := Option.bind_eq_some_iff.mp H
            obtain ⟨t114, A110, H⟩ := H
            replace H : (some t114) = some r := H
            have A11 := Aside0.mk A110
            clear A110
            obtain rfl := Option.some.inj H
            go_enter Try.func69, Try.ntmps69
            go_wp2_with (first | ((with_reducible refine gate_dst (N := 1) rfl ?_); refine box_event ?hg (N := 1) ?hd (cs := #[.string a0_0, .int .i64 a0_1, .int .i64 a0_2, .int .i64 a0_3, .string a0_4]) (t := 53) ?hr ?_; (case hd => rfl); (case hg => rfl); (case hr => first | (go_simp; done) | (go_simp; rfl)); intro gb109 hg w12 hbox hb; have n0_ := Aside0.mk (below_step (by repeat (first | (with_reducible first | exact HB.out | apply below_alloc | apply pw_below_drewN | apply below_drew1) | exact HB.out)) hb); have n1_ := Aside0.mk (hbox); have n2_ := Aside0.mk ((by rw [hg]; exact (below_size (by repeat (first | (with_reducible first | exact HB.out | apply below_alloc | apply pw_below_drewN | apply below_drew1) | exact HB.out))) : w.heap.size ≤ gb109)); have n3_ := Aside0.mk ((by rw [hg]; exact (below_size (by repeat (first | (with_reducible first | exact HB.out | apply below_alloc | apply pw_below_drewN | apply below_drew1) | exact HB.out))) : w.heap.size ≤ gb109)); clear HB; have HB := n0_; have BK109 := n1_; have GW109 := n2_; have GE109 := n3_; clear n0_ n1_ n2_ n3_; clear hb hbox hg; have hcz13_0 : w12.cell? ⟨gb109, 0, none⟩ = some (.string a0_0) := (blk_cell BK109.out 0).trans rfl; have hcz13_1 : w12.cell? ⟨gb109, 1, none⟩ = some (.int .i64 a0_1) := (blk_cell BK109.out 1).trans rfl; have hcz13_2 : w12.cell? ⟨gb109, 2, none⟩ = some (.int .i64 a0_2) := (blk_cell BK109.out 2).trans rfl; have hcz13_3 : w12.cell? ⟨gb109, 3, none⟩ = some (.int .i64 a0_3) := (blk_cell BK109.out 3).trans rfl; have hcz13_4 : w12.cell? ⟨gb109, 4, none⟩ = some (.string a0_4) := (blk_cell BK109.out 4).trans rfl; have hfz13_0 := blk_frozen BK109.out 0; have hfz13_1 := blk_frozen BK109.out 1; have hfz13_2 := blk_frozen BK109.out 2; have hfz13_3 := blk_frozen BK109.out 3; have hfz13_4 := blk_frozen BK109.out 4) | ((with_reducible refine gate_dst (N := 5) rfl ?_); (with_reducible refine gate_callee (f := 32) rfl ?_); refine goesL_ (some 5) rfl rfl Try.func32 (by kernel_rfl) rfl #[.string a0_0] rfl (by (try simp only [List.map_toArray, List.map_cons, List.map_nil]); first | done | rfl | (simp only [List.length_drop, List.length_take]; rfl)) ?_; (with_reducible refine (wimpleref1_May.calls a0_0 true _ A2.out).mono ?_); rintro e w14 ⟨rfl, hb⟩; refine ⟨_, rfl, ?_⟩; have n0_ := Aside0.mk (blk_below (g := gb109) (o := .cells #[.string a0_0, .int .i64 a0_1, .int .i64 a0_2, .int .i64 a0_3, .string a0_4] 53 (0, 0)) (by (with_reducible repeat (first | refine blk_drewN ?_ _ | refine blk_drew ?_ | refine blk_alloc ?_ _)); exact BK109.out) hb); have n1_ := Aside0.mk (below_step (by repeat (first | (with_reducible first | exact HB.out | apply below_alloc | apply pw_below_drewN | apply below_drew1 | refine below_set ?_ GE109.out) | exact HB.out)) hb); clear BK109; clear HB; have BK109 := n0_; have HB := n1_; clear n0_ n1_; (try clear hb); (try clear hb2); (try clear hk); (try clear hi); (try clear hcz13_0 hcz13_1 hcz13_2 hcz13_3 hcz13_4 hfz13_0 hfz13_1 hfz13_2 hfz13_3 hfz13_4); have hcz15_0 : w14.cell? ⟨gb109, 0, none⟩ = some (.string a0_0) := (blk_cell BK109.out 0).trans rfl; have hcz15_1 : w14.cell? ⟨gb109, 1, none⟩ = some (.int .i64 a0_1) := (blk_cell BK109.out 1).trans rfl; have hcz15_2 : w14.cell? ⟨gb109, 2, none⟩ = some (.int .i64 a0_2) := (blk_cell BK109.out 2).trans rfl; have hcz15_3 : w14.cell? ⟨gb109, 3, none⟩ = some (.int .i64 a0_3) := (blk_cell BK109.out 3).trans rfl; have hcz15_4 : w14.cell? ⟨gb109, 4, none⟩ = some (.string a0_4) := (blk_cell BK109.out 4).trans rfl; have hfz15_0 := blk_frozen BK109.out 0; have hfz15_1 := blk_frozen BK109.out 1; have hfz15_2 := blk_frozen BK109.out 2; have hfz15_3 := blk_frozen BK109.out 3; have hfz15_4 := blk_frozen BK109.out 4) | (go_at_call 52; (with_reducible refine (wimpleref4_short.calls a0_1 true _ A4.out).mono ?_); rintro e w' ⟨rfl, ⟨nd, rfl⟩⟩) | (go_at_call 52; (with_reducible refine (wimpleref4_short.calls a0_2 true _ A7.out).mono ?_); rintro e w' ⟨rfl, ⟨nd, rfl⟩⟩) | (go_at_call 53; (with_reducible refine (wimpleref4_wide.calls a0_3 true _ A9.out).mono ?_); rintro e w' ⟨rfl, ⟨nd, rfl⟩⟩) | (go_at_call 98; (with_reducible refine (wimpleref4_DataMay.calls a0_1 a0_4 t114 _ A11.out).mono ?_); rintro e w16 ⟨rfl, hb⟩; have n0_ := Aside0.mk (blk_below (g := gb109) (o := .cells #[.string a0_0, .int .i64 a0_1, .int .i64 a0_2, .int .i64 a0_3, .string a0_4] 53 (0, 0)) (by (with_reducible repeat (first | refine blk_drewN ?_ _ | refine blk_drew ?_ | refine blk_alloc ?_ _)); exact BK109.out) hb); have n1_ := Aside0.mk (below_step (by repeat (first | (with_reducible first | exact HB.out | apply below_alloc | apply pw_below_drewN | apply below_drew1 | refine below_set ?_ GE109.out) | exact HB.out)) hb); clear BK109; clear HB; have BK109 := n0_; have HB := n1_; clear n0_ n1_; (try clear hb); (try clear hb2); (try clear hk); (try clear hi)))
            go_ret
            exact ⟨by first | rfl | (simp [errW_none, errW_some] <;> rfl) | (simp [*, errW_none, errW_some] <;> rfl), by repeat (first | (with_reducible first | exact HB.out | apply below_alloc | apply pw_below_drewN | apply below_drew1 | refine below_set ?_ GE109.out) | exact HB.out)⟩
          · replace c10 := Bool.eq_false_iff.mpr c10
            subst c10
            have H1 : (some false) = some r := by rw [if_neg (show ¬ (false = true) by decide)] at H; exact H
            clear H
            have H := H1
            clear H1
            obtain rfl := Option.some.inj H
            go_enter Try.func69, Try.ntmps69
            go_wp2_with (first | ((with_reducible refine gate_dst (N := 1) rfl ?_); refine box_event ?hg (N := 1) ?hd (cs := #[.string a0_0, .int .i64 a0_1, .int .i64 a0_2, .int .i64 a0_3, .string a0_4]) (t := 53) ?hr ?_; (case hd => rfl); (case hg => rfl); (case hr => first | (go_simp; done) | (go_simp; rfl)); intro gb109 hg w17 hbox hb; have n0_ := Aside0.mk (below_step (by repeat (first | (with_reducible first | exact HB.out | apply below_alloc | apply pw_below_drewN | apply below_drew1) | exact HB.out)) hb); have n1_ := Aside0.mk (hbox); have n2_ := Aside0.mk ((by rw [hg]; exact (below_size (by repeat (first | (with_reducible first | exact HB.out | apply below_alloc | apply pw_below_drewN | apply below_drew1) | exact HB.out))) : w.heap.size ≤ gb109)); have n3_ := Aside0.mk ((by rw [hg]; exact (below_size (by repeat (first | (with_reducible first | exact HB.out | apply below_alloc | apply pw_below_drewN | apply below_drew1) | exact HB.out))) : w.heap.size ≤ gb109)); clear HB; have HB := n0_; have BK109 := n1_; have GW109 := n2_; have GE109 := n3_; clear n0_ n1_ n2_ n3_; clear hb hbox hg; (try clear hcz13_0 hcz13_1 hcz13_2 hcz13_3 hcz13_4 hfz13_0 hfz13_1 hfz13_2 hfz13_3 hfz13_4); (try clear hcz15_0 hcz15_1 hcz15_2 hcz15_3 hcz15_4 hfz15_0 hfz15_1 hfz15_2 hfz15_3 hfz15_4); have hcz18_0 : w17.cell? ⟨gb109, 0, none⟩ = some (.string a0_0) := (blk_cell BK109.out 0).trans rfl; have hcz18_1 : w17.cell? ⟨gb109, 1, none⟩ = some (.int .i64 a0_1) := (blk_cell BK109.out 1).trans rfl; have hcz18_2 : w17.cell? ⟨gb109, 2, none⟩ = some (.int .i64 a0_2) := (blk_cell BK109.out 2).trans rfl; have hcz18_3 : w17.cell? ⟨gb109, 3, none⟩ = some (.int .i64 a0_3) := (blk_cell BK109.out 3).trans rfl; have hcz18_4 : w17.cell? ⟨gb109, 4, none⟩ = some (.string a0_4) := (blk_cell BK109.out 4).trans rfl; have hfz18_0 := blk_frozen BK109.out 0; have hfz18_1 := blk_frozen BK109.out 1; have hfz18_2 := blk_frozen BK109.out 2; have hfz18_3 := blk_frozen BK109.out 3; have hfz18_4 := blk_frozen BK109.out 4) | ((with_reducible refine gate_dst (N := 5) rfl ?_); (with_reducible refine gate_callee (f := 32) rfl ?_); refine goesL_ (some 5) rfl rfl Try.func32 (by kernel_rfl) rfl #[.string a0_0] rfl (by (try simp only [List.map_toArray, List.map_cons, List.map_nil]); first | done | rfl | (simp only [List.length_drop, List.length_take]; rfl)) ?_; (with_reducible refine (wimpleref1_May.calls a0_0 true _ A2.out).mono ?_); rintro e w19 ⟨rfl, hb⟩; refine ⟨_, rfl, ?_⟩; have n0_ := Aside0.mk (blk_below (g := gb109) (o := .cells #[.string a0_0, .int .i64 a0_1, .int .i64 a0_2, .int .i64 a0_3, .string a0_4] 53 (0, 0)) (by (with_reducible repeat (first | refine blk_drewN ?_ _ | refine blk_drew ?_ | refine blk_alloc ?_ _)); exact BK109.out) hb); have n1_ := Aside0.mk (below_step (by repeat (first | (with_reducible first | exact HB.out | apply below_alloc | apply pw_below_drewN | apply below_drew1 | refine below_set ?_ GE109.out) | exact HB.out)) hb); clear BK109; clear HB; have BK109 := n0_; have HB := n1_; clear n0_ n1_; (try clear hb); (try clear hb2); (try clear hk); (try clear hi); (try clear hcz13_0 hcz13_1 hcz13_2 hcz13_3 hcz13_4 hfz13_0 hfz13_1 hfz13_2 hfz13_3 hfz13_4); (try clear hcz15_0 hcz15_1 hcz15_2 hcz15_3 hcz15_4 hfz15_0 hfz15_1 hfz15_2 hfz15_3 hfz15_4); (try clear hcz18_0 hcz18_1 hcz18_2 hcz18_3 hcz18_4 hfz18_0 hfz18_1 hfz18_2 hfz18_3 hfz18_4); have hcz20_0 : w19.cell? ⟨gb109, 0, none⟩ = some (.string a0_0) := (blk_cell BK109.out 0).trans rfl; have hcz20_1 : w19.cell? ⟨gb109, 1, none⟩ = some (.int .i64 a0_1) := (blk_cell BK109.out 1).trans rfl; have hcz20_2 : w19.cell? ⟨gb109, 2, none⟩ = some (.int .i64 a0_2) := (blk_cell BK109.out 2).trans rfl; have hcz20_3 : w19.cell? ⟨gb109, 3, none⟩ = some (.int .i64 a0_3) := (blk_cell BK109.out 3).trans rfl; have hcz20_4 : w19.cell? ⟨gb109, 4, none⟩ = some (.string a0_4) := (blk_cell BK109.out 4).trans rfl; have hfz20_0 := blk_frozen BK109.out 0; have hfz20_1 := blk_frozen BK109.out 1; have hfz20_2 := blk_frozen BK109.out 2; have hfz20_3 := blk_frozen BK109.out 3; have hfz20_4 := blk_frozen BK109.out 4) | (go_at_call 52; (with_reducible refine (wimpleref4_short.calls a0_1 true _ A4.out).mono ?_); rintro e w' ⟨rfl, ⟨nd, rfl⟩⟩) | (go_at_call 52; (with_reducible refine (wimpleref4_short.calls a0_2 true _ A7.out).mono ?_); rintro e w' ⟨rfl, ⟨nd, rfl⟩⟩) | (go_at_call 53; (with_reducible refine (wimpleref4_wide.calls a0_3 false _ A9.out).mono ?_); rintro e w' ⟨rfl, ⟨nd, rfl⟩⟩))
            go_ret
            exact ⟨by first | rfl | (simp [errW_none, errW_some] <;> rfl) | (simp [*, errW_none, errW_some] <;> rfl), by repeat (first | (with_reducible first | exact HB.out | apply below_alloc | apply pw_below_drewN | apply below_drew1 | refine below_set ?_ GE109.out) | exact HB.out)⟩
        · replace c8 := Bool.eq_false_iff.mpr c8
          subst c8
          have H1 : (some false) = some r := by rw [if_neg (show ¬ (false = true) by decide)] at H; exact H
          clear H
          have H := H1
          clear H1
          obtain rfl := Option.some.inj H
          go_enter Try.func69, Try.ntmps69
          go_wp2_with (first | ((with_reducible refine gate_dst (N := 1) rfl ?_); refine box_event ?hg (N := 1) ?hd (cs := #[.string a0_0, .int .i64 a0_1, .int .i64 a0_2, .int .i64 a0_3, .string a0_4]) (t := 53) ?hr ?_; (case hd => rfl); (case hg => rfl); (case hr => first | (go_simp; done) | (go_simp; rfl)); intro gb109 hg w21 hbox hb; have n0_ := Aside0.mk (below_step (by repeat (first | (with_reducible first | exact HB.out | apply below_alloc | apply pw_below_drewN | apply below_drew1) | exact HB.out)) hb); have n1_ := Aside0.mk (hbox); have n2_ := Aside0.mk ((by rw [hg]; exact (below_size (by repeat (first | (with_reducible first | exact HB.out | apply below_alloc | apply pw_below_drewN | apply below_drew1) | exact HB.out))) : w.heap.size ≤ gb109)); have n3_ := Aside0.mk ((by rw [hg]; exact (below_size (by repeat (first | (with_reducible first | exact HB.out | apply below_alloc | apply pw_below_drewN | apply below_drew1) | exact HB.out))) : w.heap.size ≤ gb109)); clear HB; have HB := n0_; have BK109 := n1_; have GW109 := n2_; have GE109 := n3_; clear n0_ n1_ n2_ n3_; clear hb hbox hg; (try clear hcz13_0 hcz13_1 hcz13_2 hcz13_3 hcz13_4 hfz13_0 hfz13_1 hfz13_2 hfz13_3 hfz13_4); (try clear hcz15_0 hcz15_1 hcz15_2 hcz15_3 hcz15_4 hfz15_0 hfz15_1 hfz15_2 hfz15_3 hfz15_4); (try clear hcz18_0 hcz18_1 hcz18_2 hcz18_3 hcz18_4 hfz18_0 hfz18_1 hfz18_2 hfz18_3 hfz18_4); (try clear hcz20_0 hcz20_1 hcz20_2 hcz20_3 hcz20_4 hfz20_0 hfz20_1 hfz20_2 hfz20_3 hfz20_4); have hcz22_0 : w21.cell? ⟨gb109, 0, none⟩ = some (.string a0_0) := (blk_cell BK109.out 0).trans rfl; have hcz22_1 : w21.cell? ⟨gb109, 1, none⟩ = some (.int .i64 a0_1) := (blk_cell BK109.out 1).trans rfl; have hcz22_2 : w21.cell? ⟨gb109, 2, none⟩ = some (.int .i64 a0_2) := (blk_cell BK109.out 2).trans rfl; have hcz22_3 : w21.cell? ⟨gb109, 3, none⟩ = some (.int .i64 a0_3) := (blk_cell BK109.out 3).trans rfl; have hcz22_4 : w21.cell? ⟨gb109, 4, none⟩ = some (.string a0_4) := (blk_cell BK109.out 4).trans rfl; have hfz22_0 := blk_frozen BK109.out 0; have hfz22_1 := blk_frozen BK109.out 1; have hfz22_2 := blk_frozen BK109.out 2; have hfz22_3 := blk_frozen BK109.out 3; have hfz22_4 := blk_frozen BK109.out 4) | ((with_reducible refine gate_dst (N := 5) rfl ?_); (with_reducible refine gate_callee (f := 32) rfl ?_); refine goesL_ (some 5) rfl rfl Try.func32 (by kernel_rfl) rfl #[.string a0_0] rfl (by (try simp only [List.map_toArray, List.map_cons, List.map_nil]); first | done | rfl | (simp only [List.length_drop, List.length_take]; rfl)) ?_; (with_reducible refine (wimpleref1_May.calls a0_0 true _ A2.out).mono ?_); rintro e w23 ⟨rfl, hb⟩; refine ⟨_, rfl, ?_⟩; have n0_ := Aside0.mk (blk_below (g := gb109) (o := .cells #[.string a0_0, .int .i64 a0_1, .int .i64 a0_2, .int .i64 a0_3, .string a0_4] 53 (0, 0)) (by (with_reducible repeat (first | refine blk_drewN ?_ _ | refine blk_drew ?_ | refine blk_alloc ?_ _)); exact BK109.out) hb); have n1_ := Aside0.mk (below_step (by repeat (first | (with_reducible first | exact HB.out | apply below_alloc | apply pw_below_drewN | apply below_drew1 | refine below_set ?_ GE109.out) | exact HB.out)) hb); clear BK109; clear HB; have BK109 := n0_; have HB := n1_; clear n0_ n1_; (try clear hb); (try clear hb2); (try clear hk); (try clear hi); (try clear hcz13_0 hcz13_1 hcz13_2 hcz13_3 hcz13_4 hfz13_0 hfz13_1 hfz13_2 hfz13_3 hfz13_4); (try clear hcz15_0 hcz15_1 hcz15_2 hcz15_3 hcz15_4 hfz15_0 hfz15_1 hfz15_2 hfz15_3 hfz15_4); (try clear hcz18_0 hcz18_1 hcz18_2 hcz18_3 hcz18_4 hfz18_0 hfz18_1 hfz18_2 hfz18_3 hfz18_4); (try clear hcz20_0 hcz20_1 hcz20_2 hcz20_3 hcz20_4 hfz20_0 hfz20_1 hfz20_2 hfz20_3 hfz20_4); (try clear hcz22_0 hcz22_1 hcz22_2 hcz22_3 hcz22_4 hfz22_0 hfz22_1 hfz22_2 hfz22_3 hfz22_4); have hcz24_0 : w23.cell? ⟨gb109, 0, none⟩ = some (.string a0_0) := (blk_cell BK109.out 0).trans rfl; have hcz24_1 : w23.cell? ⟨gb109, 1, none⟩ = some (.int .i64 a0_1) := (blk_cell BK109.out 1).trans rfl; have hcz24_2 : w23.cell? ⟨gb109, 2, none⟩ = some (.int .i64 a0_2) := (blk_cell BK109.out 2).trans rfl; have hcz24_3 : w23.cell? ⟨gb109, 3, none⟩ = some (.int .i64 a0_3) := (blk_cell BK109.out 3).trans rfl; have hcz24_4 : w23.cell? ⟨gb109, 4, none⟩ = some (.string a0_4) := (blk_cell BK109.out 4).trans rfl; have hfz24_0 := blk_frozen BK109.out 0; have hfz24_1 := blk_frozen BK109.out 1; have hfz24_2 := blk_frozen BK109.out 2; have hfz24_3 := blk_frozen BK109.out 3; have hfz24_4 := blk_frozen BK109.out 4) | (go_at_call 52; (with_reducible refine (wimpleref4_short.calls a0_1 true _ A4.out).mono ?_); rintro e w' ⟨rfl, ⟨nd, rfl⟩⟩) | (go_at_call 52; (with_reducible refine (wimpleref4_short.calls a0_2 false _ A7.out).mono ?_); rintro e w' ⟨rfl, ⟨nd, rfl⟩⟩))
          go_ret
          exact ⟨by first | rfl | (simp [errW_none, errW_some] <;> rfl) | (simp [*, errW_none, errW_some] <;> rfl), by repeat (first | (with_reducible first | exact HB.out | apply below_alloc | apply pw_below_drewN | apply below_drew1 | refine below_set ?_ GE109.out) | exact HB.out)⟩
      · rw [if_neg c6] at H
        have c6b0 : decide (0 < a0_1) = false := decide_eq_false c6
        clear c6
        obtain rfl := Option.some.inj H
        go_enter Try.func69, Try.ntmps69
        go_wp2_with (first | ((with_reducible refine gate_dst (N := 1) rfl ?_); refine box_event ?hg (N := 1) ?hd (cs := #[.string a0_0, .int .i64 a0_1, .int .i64 a0_2, .int .i64 a0_3, .string a0_4]) (t := 53) ?hr ?_; (case hd => rfl); (case hg => rfl); (case hr => first | (go_simp; done) | (go_simp; rfl)); intro gb109 hg w25 hbox hb; have n0_ := Aside0.mk (below_step (by repeat (first | (with_reducible first | exact HB.out | apply below_alloc | apply pw_below_drewN | apply below_drew1) | exact HB.out)) hb); have n1_ := Aside0.mk (hbox); have n2_ := Aside0.mk ((by rw [hg]; exact (below_size (by repeat (first | (with_reducible first | exact HB.out | apply below_alloc | apply pw_below_drewN | apply below_drew1) | exact HB.out))) : w.heap.size ≤ gb109)); have n3_ := Aside0.mk ((by rw [hg]; exact (below_size (by repeat (first | (with_reducible first | exact HB.out | apply below_alloc | apply pw_below_drewN | apply below_drew1) | exact HB.out))) : w.heap.size ≤ gb109)); clear HB; have HB := n0_; have BK109 := n1_; have GW109 := n2_; have GE109 := n3_; clear n0_ n1_ n2_ n3_; clear hb hbox hg; (try clear hcz13_0 hcz13_1 hcz13_2 hcz13_3 hcz13_4 hfz13_0 hfz13_1 hfz13_2 hfz13_3 hfz13_4); (try clear hcz15_0 hcz15_1 hcz15_2 hcz15_3 hcz15_4 hfz15_0 hfz15_1 hfz15_2 hfz15_3 hfz15_4); (try clear hcz18_0 hcz18_1 hcz18_2 hcz18_3 hcz18_4 hfz18_0 hfz18_1 hfz18_2 hfz18_3 hfz18_4); (try clear hcz20_0 hcz20_1 hcz20_2 hcz20_3 hcz20_4 hfz20_0 hfz20_1 hfz20_2 hfz20_3 hfz20_4); (try clear hcz22_0 hcz22_1 hcz22_2 hcz22_3 hcz22_4 hfz22_0 hfz22_1 hfz22_2 hfz22_3 hfz22_4); (try clear hcz24_0 hcz24_1 hcz24_2 hcz24_3 hcz24_4 hfz24_0 hfz24_1 hfz24_2 hfz24_3 hfz24_4); have hcz26_0 : w25.cell? ⟨gb109, 0, none⟩ = some (.string a0_0) := (blk_cell BK109.out 0).trans rfl; have hcz26_1 : w25.cell? ⟨gb109, 1, none⟩ = some (.int .i64 a0_1) := (blk_cell BK109.out 1).trans rfl; have hcz26_2 : w25.cell? ⟨gb109, 2, none⟩ = some (.int .i64 a0_2) := (blk_cell BK109.out 2).trans rfl; have hcz26_3 : w25.cell? ⟨gb109, 3, none⟩ = some (.int .i64 a0_3) := (blk_cell BK109.out 3).trans rfl; have hcz26_4 : w25.cell? ⟨gb109, 4, none⟩ = some (.string a0_4) := (blk_cell BK109.out 4).trans rfl; have hfz26_0 := blk_frozen BK109.out 0; have hfz26_1 := blk_frozen BK109.out 1; have hfz26_2 := blk_frozen BK109.out 2; have hfz26_3 := blk_frozen BK109.out 3; have hfz26_4 := blk_frozen BK109.out 4) | ((with_reducible refine gate_dst (N := 5) rfl ?_); (with_reducible refine gate_callee (f := 32) rfl ?_); refine goesL_ (some 5) rfl rfl Try.func32 (by kernel_rfl) rfl #[.string a0_0] rfl (by (try simp only [List.map_toArray, List.map_cons, List.map_nil]); first | done | rfl | (simp only [List.length_drop, List.length_take]; rfl)) ?_; (with_reducible refine (wimpleref1_May.calls a0_0 true _ A2.out).mono ?_); rintro e w27 ⟨rfl, hb⟩; refine ⟨_, rfl, ?_⟩; have n0_ := Aside0.mk (blk_below (g := gb109) (o := .cells #[.string a0_0, .int .i64 a0_1, .int .i64 a0_2, .int .i64 a0_3, .string a0_4] 53 (0, 0)) (by (with_reducible repeat (first | refine blk_drewN ?_ _ | refine blk_drew ?_ | refine blk_alloc ?_ _)); exact BK109.out) hb); have n1_ := Aside0.mk (below_step (by repeat (first | (with_reducible first | exact HB.out | apply below_alloc | apply pw_below_drewN | apply below_drew1 | refine below_set ?_ GE109.out) | exact HB.out)) hb); clear BK109; clear HB; have BK109 := n0_; have HB := n1_; clear n0_ n1_; (try clear hb); (try clear hb2); (try clear hk); (try clear hi); (try clear hcz15_0 hcz15_1 hcz15_2 hcz15_3 hcz15_4 hfz15_0 hfz15_1 hfz15_2 hfz15_3 hfz15_4); (try clear hcz18_0 hcz18_1 hcz18_2 hcz18_3 hcz18_4 hfz18_0 hfz18_1 hfz18_2 hfz18_3 hfz18_4); (try clear hcz20_0 hcz20_1 hcz20_2 hcz20_3 hcz20_4 hfz20_0 hfz20_1 hfz20_2 hfz20_3 hfz20_4); (try clear hcz22_0 hcz22_1 hcz22_2 hcz22_3 hcz22_4 hfz22_0 hfz22_1 hfz22_2 hfz22_3 hfz22_4); (try clear hcz24_0 hcz24_1 hcz24_2 hcz24_3 hcz24_4 hfz24_0 hfz24_1 hfz24_2 hfz24_3 hfz24_4); (try clear hcz26_0 hcz26_1 hcz26_2 hcz26_3 hcz26_4 hfz26_0 hfz26_1 hfz26_2 hfz26_3 hfz26_4); have hcz28_0 : w27.cell? ⟨gb109, 0, none⟩ = some (.string a0_0) := (blk_cell BK109.out 0).trans rfl; have hcz28_1 : w27.cell? ⟨gb109, 1, none⟩ = some (.int .i64 a0_1) := (blk_cell BK109.out 1).trans rfl; have hcz28_2 : w27.cell? ⟨gb109, 2, none⟩ = some (.int .i64 a0_2) := (blk_cell BK109.out 2).trans rfl; have hcz28_3 : w27.cell? ⟨gb109, 3, none⟩ = some (.int .i64 a0_3) := (blk_cell BK109.out 3).trans rfl; have hcz28_4 : w27.cell? ⟨gb109, 4, none⟩ = some (.string a0_4) := (blk_cell BK109.out 4).trans rfl; have hfz28_0 := blk_frozen BK109.out 0; have hfz28_1 := blk_frozen BK109.out 1; have hfz28_2 := blk_frozen BK109.out 2; have hfz28_3 := blk_frozen BK109.out 3; have hfz28_4 := blk_frozen BK109.out 4) | (go_at_call 52; (with_reducible refine (wimpleref4_short.calls a0_1 true _ A4.out).mono ?_); rintro e w' ⟨rfl, ⟨nd, rfl⟩⟩))
        go_ret
        exact ⟨by first | rfl | (simp [errW_none, errW_some] <;> rfl) | (simp [*, errW_none, errW_some] <;> rfl), by repeat (first | (with_reducible first | exact HB.out | apply below_alloc | apply pw_below_drewN | apply below_drew1 | refine below_set ?_ GE109.out) | exact HB.out)⟩
    · replace c5 := Bool.eq_false_iff.mpr c5
      subst c5
      have H1 : (some false) = some r := by rw [if_neg (show ¬ (false = true) by decide)] at H; exact H
      clear H
      have H := H1
      clear H1
      obtain rfl := Option.some.inj H
      go_enter Try.func69, Try.ntmps69
      go_wp2_with (first | ((with_reducible refine gate_dst (N := 1) rfl ?_); refine box_event ?hg (N := 1) ?hd (cs := #[.string a0_0, .int .i64 a0_1, .int .i64 a0_2, .int .i64 a0_3, .string a0_4]) (t := 53) ?hr ?_; (case hd => rfl); (case hg => rfl); (case hr => first | (go_simp; done) | (go_simp; rfl)); intro gb109 hg w29 hbox hb; have n0_ := Aside0.mk (below_step (by repeat (first | (with_reducible first | exact HB.out | apply below_alloc | apply pw_below_drewN | apply below_drew1) | exact HB.out)) hb); have n1_ := Aside0.mk (hbox); have n2_ := Aside0.mk ((by rw [hg]; exact (below_size (by repeat (first | (with_reducible first | exact HB.out | apply below_alloc | apply pw_below_drewN | apply below_drew1) | exact HB.out))) : w.heap.size ≤ gb109)); have n3_ := Aside0.mk ((by rw [hg]; exact (below_size (by repeat (first | (with_reducible first | exact HB.out | apply below_alloc | apply pw_below_drewN | apply below_drew1) | exact HB.out))) : w.heap.size ≤ gb109)); clear HB; have HB := n0_; have BK109 := n1_; have GW109 := n2_; have GE109 := n3_; clear n0_ n1_ n2_ n3_; clear hb hbox hg; (try clear hcz18_0 hcz18_1 hcz18_2 hcz18_3 hcz18_4 hfz18_0 hfz18_1 hfz18_2 hfz18_3 hfz18_4); (try clear hcz20_0 hcz20_1 hcz20_2 hcz20_3 hcz20_4 hfz20_0 hfz20_1 hfz20_2 hfz20_3 hfz20_4); (try clear hcz22_0 hcz22_1 hcz22_2 hcz22_3 hcz22_4 hfz22_0 hfz22_1 hfz22_2 hfz22_3 hfz22_4); (try clear hcz24_0 hcz24_1 hcz24_2 hcz24_3 hcz24_4 hfz24_0 hfz24_1 hfz24_2 hfz24_3 hfz24_4); (try clear hcz26_0 hcz26_1 hcz26_2 hcz26_3 hcz26_4 hfz26_0 hfz26_1 hfz26_2 hfz26_3 hfz26_4); (try clear hcz28_0 hcz28_1 hcz28_2 hcz28_3 hcz28_4 hfz28_0 hfz28_1 hfz28_2 hfz28_3 hfz28_4); have hcz30_0 : w29.cell? ⟨gb109, 0, none⟩ = some (.string a0_0) := (blk_cell BK109.out 0).trans rfl; have hcz30_1 : w29.cell? ⟨gb109, 1, none⟩ = some (.int .i64 a0_1) := (blk_cell BK109.out 1).trans rfl; have hcz30_2 : w29.cell? ⟨gb109, 2, none⟩ = some (.int .i64 a0_2) := (blk_cell BK109.out 2).trans rfl; have hcz30_3 : w29.cell? ⟨gb109, 3, none⟩ = some (.int .i64 a0_3) := (blk_cell BK109.out 3).trans rfl; have hcz30_4 : w29.cell? ⟨gb109, 4, none⟩ = some (.string a0_4) := (blk_cell BK109.out 4).trans rfl; have hfz30_0 := blk_frozen BK109.out 0; have hfz30_1 := blk_frozen BK109.out 1; have hfz30_2 := blk_frozen BK109.out 2; have hfz30_3 := blk_frozen BK109.out 3; have hfz30_4 := blk_frozen BK109.out 4) | ((with_reducible refine gate_dst (N := 5) rfl ?_); (with_reducible refine gate_callee (f := 32) rfl ?_); refine goesL_ (some 5) rfl rfl Try.func32 (by kernel_rfl) rfl #[.string a0_0] rfl (by (try simp only [List.map_toArray, List.map_cons, List.map_nil]); first | done | rfl | (simp only [List.length_drop, List.length_take]; rfl)) ?_; (with_reducible refine (wimpleref1_May.calls a0_0 true _ A2.out).mono ?_); rintro e w31 ⟨rfl, hb⟩; refine ⟨_, rfl, ?_⟩; have n0_ := Aside0.mk (blk_below (g := gb109) (o := .cells #[.string a0_0, .int .i64 a0_1, .int .i64 a0_2, .int .i64 a0_3, .string a0_4] 53 (0, 0)) (by (with_reducible repeat (first | refine blk_drewN ?_ _ | refine blk_drew ?_ | refine blk_alloc ?_ _)); exact BK109.out) hb); have n1_ := Aside0.mk (below_step (by repeat (first | (with_reducible first | exact HB.out | apply below_alloc | apply pw_below_drewN | apply below_drew1 | refine below_set ?_ GE109.out) | exact HB.out)) hb); clear BK109; clear HB; have BK109 := n0_; have HB := n1_; clear n0_ n1_; (try clear hb); (try clear hb2); (try clear hk); (try clear hi); (try clear hcz20_0 hcz20_1 hcz20_2 hcz20_3 hcz20_4 hfz20_0 hfz20_1 hfz20_2 hfz20_3 hfz20_4); (try clear hcz22_0 hcz22_1 hcz22_2 hcz22_3 hcz22_4 hfz22_0 hfz22_1 hfz22_2 hfz22_3 hfz22_4); (try clear hcz24_0 hcz24_1 hcz24_2 hcz24_3 hcz24_4 hfz24_0 hfz24_1 hfz24_2 hfz24_3 hfz24_4); (try clear hcz26_0 hcz26_1 hcz26_2 hcz26_3 hcz26_4 hfz26_0 hfz26_1 hfz26_2 hfz26_3 hfz26_4); (try clear hcz28_0 hcz28_1 hcz28_2 hcz28_3 hcz28_4 hfz28_0 hfz28_1 hfz28_2 hfz28_3 hfz28_4); (try clear hcz30_0 hcz30_1 hcz30_2 hcz30_3 hcz30_4 hfz30_0 hfz30_1 hfz30_2 hfz30_3 hfz30_4); have hcz32_0 : w31.cell? ⟨gb109, 0, none⟩ = some (.string a0_0) := (blk_cell BK109.out 0).trans rfl; have hcz32_1 : w31.cell? ⟨gb109, 1, none⟩ = some (.int .i64 a0_1) := (blk_cell BK109.out 1).trans rfl; have hcz32_2 : w31.cell? ⟨gb109, 2, none⟩ = some (.int .i64 a0_2) := (blk_cell BK109.out 2).trans rfl; have hcz32_3 : w31.cell? ⟨gb109, 3, none⟩ = some (.int .i64 a0_3) := (blk_cell BK109.out 3).trans rfl; have hcz32_4 : w31.cell? ⟨gb109, 4, none⟩ = some (.string a0_4) := (blk_cell BK109.out 4).trans rfl; have hfz32_0 := blk_frozen BK109.out 0; have hfz32_1 := blk_frozen BK109.out 1; have hfz32_2 := blk_frozen BK109.out 2; have hfz32_3 := blk_frozen BK109.out 3; have hfz32_4 := blk_frozen BK109.out 4) | (go_at_call 52; (with_reducible refine (wimpleref4_short.calls a0_1 false _ A4.out).mono ?_); rintro e w' ⟨rfl, ⟨nd, rfl⟩⟩))
      go_ret
      exact ⟨by first | rfl | (simp [errW_none, errW_some] <;> rfl) | (simp [*, errW_none, errW_some] <;> rfl), by repeat (first | (with_reducible first | exact HB.out | apply below_alloc | apply pw_below_drewN | apply below_drew1 | refine below_set ?_ GE109.out) | exact HB.out)⟩
  · replace c3 := Bool.eq_false_iff.mpr c3
    subst c3
    have H1 : (some false) = some r := by rw [if_neg (show ¬ (false = true) by decide)] at H; exact H
    clear H
    have H := H1
    clear H1
    obtain rfl := Option.some.inj H
    go_enter Try.func69, Try.ntmps69
    go_wp2_with (first | ((with_reducible refine gate_dst (N := 1) rfl ?_); refine box_event ?hg (N := 1) ?hd (cs := #[.string a0_0, .int .i64 a0_1, .int .i64 a0_2, .int .i64 a0_3, .string a0_4]) (t := 53) ?hr ?_; (case hd => rfl); (case hg => rfl); (case hr => first | (go_simp; done) | (go_simp; rfl)); intro gb109 hg w33 hbox hb; have n0_ := Aside0.mk (below_step (by repeat (first | (with_reducible first | exact HB.out | apply below_alloc | apply pw_below_drewN | apply below_drew1) | exact HB.out)) hb); have n1_ := Aside0.mk (hbox); have n2_ := Aside0.mk ((by rw [hg]; exact (below_size (by repeat (first | (with_reducible first | exact HB.out | apply below_alloc | apply pw_below_drewN | apply below_drew1) | exact HB.out))) : w.heap.size ≤ gb109)); have n3_ := Aside0.mk ((by rw [hg]; exact (below_size (by repeat (first | (with_reducible first | exact HB.out | apply below_alloc | apply pw_below_drewN | apply below_drew1) | exact HB.out))) : w.heap.size ≤ gb109)); clear HB; have HB := n0_; have BK109 := n1_; have GW109 := n2_; have GE109 := n3_; clear n0_ n1_ n2_ n3_; clear hb hbox hg; (try clear hcz22_0 hcz22_1 hcz22_2 hcz22_3 hcz22_4 hfz22_0 hfz22_1 hfz22_2 hfz22_3 hfz22_4); (try clear hcz24_0 hcz24_1 hcz24_2 hcz24_3 hcz24_4 hfz24_0 hfz24_1 hfz24_2 hfz24_3 hfz24_4); (try clear hcz26_0 hcz26_1 hcz26_2 hcz26_3 hcz26_4 hfz26_0 hfz26_1 hfz26_2 hfz26_3 hfz26_4); (try clear hcz28_0 hcz28_1 hcz28_2 hcz28_3 hcz28_4 hfz28_0 hfz28_1 hfz28_2 hfz28_3 hfz28_4); (try clear hcz30_0 hcz30_1 hcz30_2 hcz30_3 hcz30_4 hfz30_0 hfz30_1 hfz30_2 hfz30_3 hfz30_4); (try clear hcz32_0 hcz32_1 hcz32_2 hcz32_3 hcz32_4 hfz32_0 hfz32_1 hfz32_2 hfz32_3 hfz32_4); have hcz34_0 : w33.cell? ⟨gb109, 0, none⟩ = some (.string a0_0) := (blk_cell BK109.out 0).trans rfl; have hcz34_1 : w33.cell? ⟨gb109, 1, none⟩ = some (.int .i64 a0_1) := (blk_cell BK109.out 1).trans rfl; have hcz34_2 : w33.cell? ⟨gb109, 2, none⟩ = some (.int .i64 a0_2) := (blk_cell BK109.out 2).trans rfl; have hcz34_3 : w33.cell? ⟨gb109, 3, none⟩ = some (.int .i64 a0_3) := (blk_cell BK109.out 3).trans rfl; have hcz34_4 : w33.cell? ⟨gb109, 4, none⟩ = some (.string a0_4) := (blk_cell BK109.out 4).trans rfl; have hfz34_0 := blk_frozen BK109.out 0; have hfz34_1 := blk_frozen BK109.out 1; have hfz34_2 := blk_frozen BK109.out 2; have hfz34_3 := blk_frozen BK109.out 3; have hfz34_4 := blk_frozen BK109.out 4) | ((with_reducible refine gate_dst (N := 5) rfl ?_); (with_reducible refine gate_callee (f := 32) rfl ?_); refine goesL_ (some 5) rfl rfl Try.func32 (by kernel_rfl) rfl #[.string a0_0] rfl (by (try simp only [List.map_toArray, List.map_cons, List.map_nil]); first | done | rfl | (simp only [List.length_drop, List.length_take]; rfl)) ?_; (with_reducible refine (wimpleref1_May.calls a0_0 false _ A2.out).mono ?_); rintro e w35 ⟨rfl, hb⟩; refine ⟨_, rfl, ?_⟩; have n0_ := Aside0.mk (blk_below (g := gb109) (o := .cells #[.string a0_0, .int .i64 a0_1, .int .i64 a0_2, .int .i64 a0_3, .string a0_4] 53 (0, 0)) (by (with_reducible repeat (first | refine blk_drewN ?_ _ | refine blk_drew ?_ | refine blk_alloc ?_ _)); exact BK109.out) hb); have n1_ := Aside0.mk (below_step (by repeat (first | (with_reducible first | exact HB.out | apply below_alloc | apply pw_below_drewN | apply below_drew1 | refine below_set ?_ GE109.out) | exact HB.out)) hb); clear BK109; clear HB; have BK109 := n0_; have HB := n1_; clear n0_ n1_; (try clear hb); (try clear hb2); (try clear hk); (try clear hi)))
    go_ret
    exact ⟨by first | rfl | (simp [errW_none, errW_some] <;> rfl) | (simp [*, errW_none, errW_some] <;> rfl), by repeat (first | (with_reducible first | exact HB.out | apply below_alloc | apply pw_below_drewN | apply below_drew1 | refine below_set ?_ GE109.out) | exact HB.out)⟩

-- NOT PRINTED: function 37 (wimpleref4_MsgMay)

end Go.Proofs.Ytjklgdpffmaamaa.PRm

namespace Go.Proofs.Ytjklgdpffmaamaa.Wm
open Go.RowKit Go.PlainAid Go.Maps Go.Proofs.Ytjklgdpffmaamaa.Base Go.Proofs.Ytjklgdpffmaamaa.Oct Go.Proofs.Ytjklgdpffmaamaa.Nm Go.Proofs.Ytjklgdpffmaamaa.Wr
open Go.Proofs.YtjklgdpffmaamaaW.PrintWords (blk_cell blk_below blk_new blk_lt)
set_option linter.unusedVariables false
theorem short_is (x : Int) : PRm.wimpleref4_short.f x = some (inB x 0 65535) := by
  unfold PRm.wimpleref4_short.f inB
  by_cases h : 0 ≤ x
  · rw [if_pos h, decide_eq_true h]; rfl
  · rw [if_neg h, decide_eq_false h]; rfl
theorem wide_is (x : Int) : PRm.wimpleref4_wide.f x = some (inB x 0 4294967295) := by
  unfold PRm.wimpleref4_wide.f inB
  by_cases h : 0 ≤ x
  · rw [if_pos h, decide_eq_true h]; rfl
  · rw [if_neg h, decide_eq_false h]; rfl
theorem rmay_is (r : Rr) (hs : r.data.size ≤ 9223372036854775000) : PRm.wimpleref4_rrMay.f r.name r.type r.cls r.ttl r.data = some (rMay r) := by
  unfold PRm.wimpleref4_rrMay.f rMay
  simp only [short_is, wide_is, PRm.wimpleref1_May.f, PRm.wimpleref4_DataMay.f, if_pos hs, Option.bind_some]
  cases nameB r.name
  · rfl
  · simp only [if_true, Bool.true_and]
    by_cases h1 : 0 ≤ r.type
    · by_cases h2 : r.type ≤ 65535
      · rw [show inB r.type 0 65535 = true by unfold inB; simp [h1, h2]]
        by_cases h3 : r.type > 0
        · rw [if_pos rfl, if_pos h3, show inB r.type 1 65535 = true by unfold inB; simp; omega]
          cases inB r.cls 0 65535
          · rfl
          · simp only [if_true, Bool.true_and]
            cases inB r.ttl 0 4294967295 <;> simp
        · rw [if_pos rfl, if_neg h3, show inB r.type 1 65535 = false by unfold inB; simp; omega]
          rfl
      · rw [show inB r.type 0 65535 = false by unfold inB; simp; omega, show inB r.type 1 65535 = false by unfold inB; simp; omega]; rfl
    · rw [show inB r.type 0 65535 = false by unfold inB; simp; omega, show inB r.type 1 65535 = false by unfold inB; simp; omega]; rfl
theorem shortc (x : Int) (w : World) : Calls Try.prog 52 #[.int .i64 x] w fun e w' => e = .returned (.bool (inB x 0 65535)) ∧ w' = w := by
  unfold inB
  by_cases h1 : 0 ≤ x
  · have q1 : decide (0 ≤ x) = true := decide_eq_true h1
    by_cases h2 : x ≤ 65535
    · have q2 : decide (x ≤ 65535) = true := decide_eq_true h2
      rw [q1, q2]
      go_enter Try.func52, Try.ntmps52
      go_wp2
      go_ret
      exact ⟨rfl, rfl⟩
    · have q2 : decide (x ≤ 65535) = false := decide_eq_false h2
      rw [q1, q2]
      go_enter Try.func52, Try.ntmps52
      go_wp2
      go_ret
      exact ⟨rfl, rfl⟩
  · have q1 : decide (0 ≤ x) = false := decide_eq_false h1
    rw [q1]
    go_enter Try.func52, Try.ntmps52
    go_wp2
    go_ret
    exact ⟨rfl, rfl⟩
theorem may0 {h : Hd.Head} {a b c d : Int} (ha : Hd.sh a) (hb : Hd.sh b) (hc : Hd.sh c) (hd : Hd.sh d) : Hd.mayB h a b c d = Hd.mayB h 0 0 0 0 := by
  unfold Hd.mayB
  rw [Bool.eq_iff_iff]
  simp only [decide_eq_true_eq]
  have z : Hd.sh 0 := ⟨by decide, by decide⟩
  exact ⟨fun h => ⟨⟨z, z, z, z⟩, h.2⟩, fun h => ⟨⟨ha, hb, hc, hd⟩, h.2⟩⟩
theorem may_bad {h : Hd.Head} {a b c d : Int} (h0 : Hd.mayB h 0 0 0 0 = false) : Hd.mayB h a b c d = false := by
  cases e : Hd.mayB h a b c d with
  | false => rfl
  | true =>
    unfold Hd.mayB at e h0
    have := of_decide_eq_true e
    have := of_decide_eq_false h0
    have z : Hd.sh 0 := ⟨by decide, by decide⟩
    exact absurd ⟨⟨z, z, z, z⟩, (of_decide_eq_true e).2⟩ this
/-- The rows of a message, one behind the other. -/
def rows3 (m : MsgV) (p : Nat) : Option Addr × List Rr × Nat := if p = 0 then (m.Aa, m.an, m.ca) else if p = 1 then (m.An, m.ns, m.cn) else (m.Ar, m.ar, m.cr)
theorem rows3_ok {m : MsgV} {w : World} (h : m.Lies w) (p : Nat) (hp : p < 3) : RCells w (rows3 m p).1 (rows3 m p).2.1 ∧ (rows3 m p).2.1.length ≤ (rows3 m p).2.2 ∧ small (rows3 m p).2.1 ∧ (rows3 m p).2.1 = [m.an, m.ns, m.ar].getD p [] := by
  obtain rfl | rfl | rfl : p = 0 ∨ p = 1 ∨ p = 2 := by omega
  · exact ⟨h.a, h.la, h.sa, rfl⟩
  · exact ⟨h.n, h.ln, h.sn, rfl⟩
  · exact ⟨h.r, h.lr, h.sr, rfl⟩
theorem rows3_at {m : MsgV} {w : World} {b : Nat} (h : w.heap[b]? = some (.cells #[.slice m.Aa m.an.length m.ca, .slice m.An m.ns.length m.cn, .slice m.Ar m.ar.length m.cr] 25 (0, 0))) (p : Nat) (hp : p < 3) : w.cell? ⟨b, p, none⟩ = some (.slice (rows3 m p).1 (rows3 m p).2.1.length (rows3 m p).2.2) := by
  obtain rfl | rfl | rfl : p = 0 ∨ p = 1 ∨ p = 2 := by omega
  · exact (blk_cell h 0).trans rfl
  · exact (blk_cell h 1).trans rfl
  · exact (blk_cell h 2).trans rfl
set_option maxHeartbeats 8000000 in
set_option maxRecDepth 100000 in
theorem rmayc (m : MsgV) (w : World) (hm : m.Lies w) : Calls Try.prog 37 #[.agg m.cells] w fun e w' => e = .returned (.bool (putOk m)) ∧ Below w.heap.size w w' := by
  have B0 : Below w.heap.size w (w.alloc (.cells m.cells 27)) := (Below.refl _ _).alloc (Nat.le_refl _) _
  have hb := blk_new w (.cells m.cells 27)
  have hm1 := hm.below B0
  have kw := Hd.rwrote m.h 0 0 0 0 (w.alloc (.cells m.cells 27))
  have HPO := Lib.hid (show putOk m = (Hd.mayB m.h m.qs.length m.an.length m.ns.length m.ar.length && fitsB m.qs m.an m.ns m.ar) from rfl)
  go_enter Try.func37, Try.ntmps37
  go_wp2_with fail
  refine kw.mono ?_
  rintro e w1 ⟨rfl, B1⟩
  replace hb := blk_below hb B1
  replace hm1 := hm1.below B1
  replace B0 := B0.trans (B1.mono B0.size)
  clear kw B1 hm
  have sB0 := B0.size
  have c9 : w1.cell? ⟨w.heap.size, 9, none⟩ = some (.slice m.Aq m.qs.length m.cq) := (blk_cell hb 9).trans rfl
  have c10 : w1.cell? ⟨w.heap.size, 10, none⟩ = some (.slice m.Aa m.an.length m.ca) := (blk_cell hb 10).trans rfl
  have c11 : w1.cell? ⟨w.heap.size, 11, none⟩ = some (.slice m.An m.ns.length m.cn) := (blk_cell hb 11).trans rfl
  have c12 : w1.cell? ⟨w.heap.size, 12, none⟩ = some (.slice m.Ar m.ar.length m.cr) := (blk_cell hb 12).trans rfl
  cases h0 : Hd.mayB m.h 0 0 0 0 with
  | false =>
    have e1 : Hd.wroteE m.h 0 0 0 0 = 600 := by unfold Hd.wroteE; rw [h0]; rfl
    have e2 := may_bad (a := m.qs.length) (b := m.an.length) (c := m.ns.length) (d := m.ar.length) h0
    rw [e1]
    have HF := Lib.hid (show putOk m = false by rw [HPO.out, e2]; rfl)
    clear e1 e2 h0
    go_wp2_with fail
    go_ret
    exact ⟨by rw [HF.out]; first | done | rfl, B0⟩
  | true =>
    have e1 : Hd.wroteE m.h 0 0 0 0 = 0 := by unfold Hd.wroteE; rw [h0]; rfl
    rw [e1]
    clear e1
    by_cases hlen : m.qs.length ≤ 64 ∧ m.an.length ≤ 64 ∧ m.ns.length ≤ 64 ∧ m.ar.length ≤ 64
    · have e2 : Hd.mayB m.h m.qs.length m.an.length m.ns.length m.ar.length = true := by
        rw [may0 ⟨by omega, by omega⟩ ⟨by omega, by omega⟩ ⟨by omega, by omega⟩ ⟨by omega, by omega⟩]; exact h0
      have HE := Lib.hid (show putOk m = (m.qs.all qMay && [m.an, m.ns, m.ar].all listOk) by rw [HPO.out, e2, Bool.true_and, fits_eq, decide_eq_true hlen.1, Bool.true_and])
      have q1 : decide ((64 : Int) < (m.qs.length : Int)) = false := by simp; omega
      have q2 : decide ((64 : Int) < (m.an.length : Int)) = false := by simp; omega
      have q3 : decide ((64 : Int) < (m.ns.length : Int)) = false := by simp; omega
      have q4 : decide ((64 : Int) < (m.ar.length : Int)) = false := by simp; omega
      have HL := Lib.hid hlen
      have hlen64 := hlen.1
      clear e2 h0 hlen
      have hl64 := hlen64
      have hmq := hm1.q
      have hlq := hm1.lq
      have hrows := fun p hp => rows3_ok hm1 p hp
      clear hm1
      go_wp2_with fail
      go_loopg [5] (m.qs.length + 1) (fun k v5 wr => ∃ j : Nat, v5 = .int .i64 j ∧ j + k = m.qs.length + 1 ∧ j ≤ m.qs.length ∧ (m.qs.take j).all qMay = true ∧ Below w1.heap.size w1 wr)
      case atStart => exact ⟨0, rfl, by omega, by omega, rfl, Below.refl _ _⟩
      case round =>
        obtain ⟨j, rfl, hk1, hk2, hall, B⟩ := hrel
        have HALL := Lib.hid hall
        clear hall
        have sB := B.size
        have B00 := B0.trans (B.mono sB0)
        have d9 := bcell B c9
        by_cases hj : j < m.qs.length
        · have q0 : decide ((j : Int) < (m.qs.length : Int)) = true := by simp; omega
          obtain ⟨ad, eA, hat⟩ : ∃ ad, m.Aq = some ad ∧ ∀ j, j < m.qs.length → AtQ w1 (ad.add (j * 3)) (m.qs.getD j zQ) := by
            rcases hmq with h | h
            · omega
            · exact h
          rw [eA] at d9
          clear eA
          have ha := (hat j hj).below B
          have htk : (m.qs.take (j + 1)).all qMay = ((m.qs.take j).all qMay && qMay (m.qs.getD j zQ)) := by
            rw [List.take_succ_eq_append_getElem hj, List.all_append, List.getD_eq_getElem?_getD, List.getElem?_eq_getElem hj]; simp
          have hany : qMay (m.qs.getD j zQ) = false → m.qs.all qMay = false := fun h => by
            rw [List.all_eq_false]
            refine ⟨m.qs.getD j zQ, ?_, by rw [h]; simp⟩
            rw [List.getD_eq_getElem?_getD, List.getElem?_eq_getElem hj]; exact List.getElem_mem hj
          have HTK := Lib.hid htk
          have HANY := Lib.hid hany
          clear htk hany hat
          generalize m.qs.getD j zQ = x at *
          obtain ⟨d0, d1, d2⟩ := ha
          have k0 := fun w => rmay x.name w
          have k1 := fun w => shortc x.type w
          have k2 := fun w => shortc x.cls w
          have Bq : Below wr.heap.size wr (wr.alloc (.cells #[.string x.name, .int .i64 x.type, .int .i64 x.cls] 40)) := (Below.refl _ _).alloc (Nat.le_refl _) _
          have pq := blk_new wr (.cells #[.string x.name, .int .i64 x.type, .int .i64 x.cls] 40)
          go_upto_region 8 with (fail)
          have BX := B.trans (Bq.mono sB)
          clear B d0 d1 d2 d9 hlq Bq
          generalize wr.alloc (.cells #[.string x.name, .int .i64 x.type, .int .i64 x.cls] 40) = w2 at *
          generalize wr.heap.size = gq at *
          have e0 : w2.cell? ⟨gq, 0, none⟩ = some (.string x.name) := (blk_cell pq 0).trans rfl
          have HQX := Lib.hid (show qMay x = (nameB x.name && (inB x.type 0 65535 && !(x.type == 0)) && inB x.cls 0 65535) by
            unfold qMay
            rw [show inB x.type 1 65535 = (inB x.type 0 65535 && !(x.type == 0)) by unfold inB; rw [Bool.eq_iff_iff]; simp; omega])
          generalize nameB x.name = b0 at *
          generalize inB x.type 0 65535 = b1 at *
          generalize inB x.cls 0 65535 = b2 at *
          go_wp2_with fail
          refine (k0 _).mono ?_
          rintro e w3 ⟨rfl, B3⟩
          replace pq := blk_below pq B3
          replace BX := BX.trans (B3.mono BX.size)
          have e1 : w3.cell? ⟨gq, 1, none⟩ = some (.int .i64 x.type) := (blk_cell pq 1).trans rfl
          have e2 : w3.cell? ⟨gq, 2, none⟩ = some (.int .i64 x.cls) := (blk_cell pq 2).trans rfl
          clear e0 B3 k0
          have BY := B0.trans (BX.mono sB0)
          have bad : qMay x = false → putOk m = false := fun h => by rw [HE.out, HANY.out h]; rfl
          have HBAD := Lib.hid bad
          clear bad HANY
          cases b0 with
          | false =>
            have E := Lib.hid (HBAD.out (by rw [HQX.out]; rfl))
            go_wp2_with fail
            go_ret
            exact ⟨by rw [E.out]; first | done | rfl, BY⟩
          | true =>
            cases b1 with
            | false =>
              have E := Lib.hid (HBAD.out (by rw [HQX.out]; rfl))
              go_wp2_with (first | (go_at_call 52; with_reducible refine (k1 _).mono ?_; rintro e w' ⟨rfl, rfl⟩) | (go_at_call 52; with_reducible refine (k2 _).mono ?_; rintro e w' ⟨rfl, rfl⟩))
              go_ret
              exact ⟨by rw [E.out]; first | done | rfl, BY⟩
            | true =>
              by_cases hz : x.type = 0
              · have E := Lib.hid (HBAD.out (by rw [HQX.out, hz]; rfl))
                have z1 : (x.type == 0) = true := by simpa using hz
                clear hz
                go_wp2_with (first | (go_at_call 52; with_reducible refine (k1 _).mono ?_; rintro e w' ⟨rfl, rfl⟩) | (go_at_call 52; with_reducible refine (k2 _).mono ?_; rintro e w' ⟨rfl, rfl⟩))
                go_ret
                exact ⟨by rw [E.out]; first | done | rfl, BY⟩
              · have z1 : (x.type == 0) = false := by simpa using hz
                have HZ := Lib.hid hz
                clear hz
                cases b2 with
                | false =>
                  have E := Lib.hid (HBAD.out (by rw [HQX.out, z1]; rfl))
                  go_wp2_with (first | (go_at_call 52; with_reducible refine (k1 _).mono ?_; rintro e w' ⟨rfl, rfl⟩) | (go_at_call 52; with_reducible refine (k2 _).mono ?_; rintro e w' ⟨rfl, rfl⟩))
                  go_ret
                  exact ⟨by rw [E.out]; first | done | rfl, BY⟩
                | true =>
                  have E := Lib.hid (show qMay x = true by rw [HQX.out, z1]; rfl)
                  go_wp2_with (first | (go_at_call 52; with_reducible refine (k1 _).mono ?_; rintro e w' ⟨rfl, rfl⟩) | (go_at_call 52; with_reducible refine (k2 _).mono ?_; rintro e w' ⟨rfl, rfl⟩))
                  go_roundg (gk - 1)
                  case measure => omega
                  case rel => exact ⟨j + 1, rfl, by omega, by omega, by rw [HTK.out, HALL.out, E.out]; rfl, BX⟩
        · have q0 : decide ((j : Int) < (m.qs.length : Int)) = false := by simp; omega
          have hqall : m.qs.all qMay = true := by have := HALL.out; rwa [List.take_of_length_le (by omega)] at this
          have HQ := Lib.hid (show putOk m = [m.an, m.ns, m.ar].all listOk by rw [HE.out, hqall, Bool.true_and])
          clear hqall HALL HE
          have d10 := bcell B c10
          have d11 := bcell B c11
          have d12 := bcell B c12
          clear c9 c10 c11 c12 hmq q1 q2 q3 q4
          go_wp2_with fail
          have Ba : Below wr.heap.size wr (wr.alloc (.cells #[.slice m.Aa m.an.length m.ca, .slice m.An m.ns.length m.cn, .slice m.Ar m.ar.length m.cr] 25)) := (Below.refl _ _).alloc (Nat.le_refl _) _
          have pa := blk_new wr (.cells #[.slice m.Aa m.an.length m.ca, .slice m.An m.ns.length m.cn, .slice m.Ar m.ar.length m.cr] 25)
          have BW := B.trans (Ba.mono sB)
          clear d10 d11 d12 d9 Ba B
          generalize wr.alloc (.cells #[.slice m.Aa m.an.length m.ca, .slice m.An m.ns.length m.cn, .slice m.Ar m.ar.length m.cr] 25) = w2 at *
          generalize wr.heap.size = ga at *
          have BW0 := B0.trans (BW.mono sB0)
          have hcells : ∀ p, p < 3 → ∀ wr, Below w2.heap.size w2 wr → wr.cell? ⟨ga, p, none⟩ = some (.slice (rows3 m p).1 (rows3 m p).2.1.length (rows3 m p).2.2) := fun p hp wr B => rows3_at (blk_below pa B) p hp
          have HCE := Lib.hid hcells
          have HRO := Lib.hid hrows
          clear hcells hrows pa hl64 hlen64
          go_loopg [8] 4 (fun k v8 wr => ∃ p : Nat, v8 = .int .i64 p ∧ p + k = 4 ∧ p ≤ 3 ∧ ([m.an, m.ns, m.ar].take p).all listOk = true ∧ Below w2.heap.size w2 wr)
          case atStart => exact ⟨0, rfl, rfl, by omega, rfl, Below.refl _ _⟩
          case round =>
            obtain ⟨p, rfl, hp1, hp2, hall, B⟩ := hrel
            have HALL := Lib.hid hall
            clear hall
            have sB := B.size
            have BX0 := BW0.trans (B.mono BW0.size)
            by_cases hp : p < 3
            · have q0 : decide ((p : Int) < 3) = true := by simp; omega
              obtain ⟨hcl, hlc, hsm, hl⟩ := HRO.out p hp
              have htk : ([m.an, m.ns, m.ar].take (p + 1)).all listOk = (([m.an, m.ns, m.ar].take p).all listOk && listOk (rows3 m p).2.1) := by
                obtain rfl | rfl | rfl : p = 0 ∨ p = 1 ∨ p = 2 := by omega
                all_goals simp [hl, Bool.and_assoc]
              have hany : listOk (rows3 m p).2.1 = false → putOk m = false := fun h => by
                rw [HQ.out, List.all_eq_false]
                refine ⟨(rows3 m p).2.1, ?_, by rw [h]; simp⟩
                obtain rfl | rfl | rfl : p = 0 ∨ p = 1 ∨ p = 2 := by omega
                all_goals simp [hl]
              have hle : (rows3 m p).2.1.length ≤ 64 := by
                have := HL.out
                obtain rfl | rfl | rfl : p = 0 ∨ p = 1 ∨ p = 2 := by omega
                all_goals (rw [hl]; simp; omega)
              have HTK := Lib.hid htk
              have HANY := Lib.hid hany
              have HCP := Lib.hid (HCE.out p hp)
              clear htk hany hl
              generalize (rows3 m p).1 = A at *
              generalize (rows3 m p).2.2 = c at *
              generalize (rows3 m p).2.1 = l at *
              have hp3 : p ≤ 2 := by omega
              go_wp2_with fail
              go_loopg [9] (l.length + 1) (fun k v9 wq => ∃ j : Nat, v9 = .int .i64 j ∧ j + k = l.length + 1 ∧ j ≤ l.length ∧ (l.take j).all rMay = true ∧ Below w2.heap.size w2 wq)
              case atStart => exact ⟨0, rfl, by omega, by omega, rfl, B⟩
              case round =>
                obtain ⟨j, rfl, hj1, hj2, hall, Bq⟩ := hrel
                have HALLQ := Lib.hid hall
                clear hall
                have BX1 := BW0.trans (Bq.mono BW0.size)
                have cp := HCP.out _ Bq
                by_cases hj : j < l.length
                · have q2 : decide ((j : Int) < (l.length : Int)) = true := by simp; omega
                  obtain ⟨ad, eA, hat⟩ : ∃ ad, A = some ad ∧ ∀ j, j < l.length → AtR w1 (ad.add (j * 5)) (l.getD j zR) := by
                    rcases hcl with h | h
                    · omega
                    · exact h
                  subst eA
                  obtain ⟨d0, d1, d2, d3, d4⟩ := ((hat j hj).below BW).below Bq
                  have hmem : l.getD j zR ∈ l := by rw [List.getD_eq_getElem?_getD, List.getElem?_eq_getElem hj]; exact List.getElem_mem hj
                  have htk : (l.take (j + 1)).all rMay = ((l.take j).all rMay && rMay (l.getD j zR)) := by
                    rw [List.take_succ_eq_append_getElem hj, List.all_append, List.getD_eq_getElem?_getD, List.getElem?_eq_getElem hj]; simp
                  have hany2 : rMay (l.getD j zR) = false → l.all rMay = false := fun h => by
                    rw [List.all_eq_false]; exact ⟨_, hmem, by rw [h]; simp⟩
                  have km := fun w => PRm.wimpleref4_rrMay.calls (l.getD j zR).name (l.getD j zR).type (l.getD j zR).cls (l.getD j zR).ttl (l.getD j zR).data (rMay (l.getD j zR)) w (rmay_is _ (hsm _ hmem))
                  generalize rMay (l.getD j zR) = bb at *
                  generalize l.getD j zR = x at *
                  have HTK2 := Lib.hid htk
                  have HANY2 := Lib.hid hany2
                  clear htk hany2 hmem hat
                  go_wp2_with fail
                  refine (km _).mono ?_
                  rintro e w4 ⟨rfl, B4⟩
                  have B5 := Bq.trans (B4.mono Bq.size)
                  have B6 := BX1.trans (B4.mono BX1.size)
                  clear km d0 d1 d2 d3 d4 cp
                  cases bb with
                  | false =>
                    have E := Lib.hid (HANY.out (by unfold listOk; rw [HANY2.out rfl, Bool.and_false]))
                    go_wp2_with fail
                    go_ret
                    exact ⟨by rw [E.out]; first | done | rfl, B6⟩
                  | true =>
                    go_wp2_with fail
                    go_roundg (l.length - j)
                    case measure => omega
                    case rel => exact ⟨j + 1, rfl, by omega, by omega, by rw [HTK2.out, HALLQ.out]; rfl, B5⟩
                · have q2 : decide ((j : Int) < (l.length : Int)) = false := by simp; omega
                  have hok : listOk l = true := by unfold listOk; rw [decide_eq_true hle]; have := HALLQ.out; rwa [List.take_of_length_le (by omega)] at this
                  have HEE := Lib.hid (show ([m.an, m.ns, m.ar].take (p + 1)).all listOk = true by rw [HTK.out, HALL.out, hok]; rfl)
                  clear hok
                  go_wp2_with fail
                  go_roundg (3 - p)
                  case measure => omega
                  case rel => exact ⟨p + 1, rfl, by omega, by omega, HEE.out, Bq⟩
            · have q0 : decide ((p : Int) < 3) = false := by simp; omega
              obtain rfl : p = 3 := by omega
              have E := Lib.hid (show putOk m = true by rw [HQ.out]; exact HALL.out)
              go_wp2_with fail
              go_ret
              exact ⟨by rw [E.out]; first | done | rfl, BX0⟩
    · have e3 : fitsB m.qs m.an m.ns m.ar = false := by
        cases e : fitsB m.qs m.an m.ns m.ar with
        | false => rfl
        | true => exact absurd (fits_len e) hlen
      have HF := Lib.hid (show putOk m = false by rw [HPO.out, e3, Bool.and_false])
      clear h0 e3
      by_cases l1 : 64 < m.qs.length
      · have q1 : decide ((64 : Int) < (m.qs.length : Int)) = true := by simp; omega
        clear hlen l1
        go_wp2_with fail
        go_ret
        exact ⟨by rw [HF.out]; first | done | rfl, B0⟩
      · have q1 : decide ((64 : Int) < (m.qs.length : Int)) = false := by simp; omega
        by_cases l2 : 64 < m.an.length
        · have q2 : decide ((64 : Int) < (m.an.length : Int)) = true := by simp; omega
          clear hlen l1 l2
          go_wp2_with fail
          go_ret
          exact ⟨by rw [HF.out]; first | done | rfl, B0⟩
        · have q2 : decide ((64 : Int) < (m.an.length : Int)) = false := by simp; omega
          by_cases l3 : 64 < m.ns.length
          · have q3 : decide ((64 : Int) < (m.ns.length : Int)) = true := by simp; omega
            clear hlen l1 l2 l3
            go_wp2_with fail
            go_ret
            exact ⟨by rw [HF.out]; first | done | rfl, B0⟩
          · have q3 : decide ((64 : Int) < (m.ns.length : Int)) = false := by simp; omega
            have q4 : decide ((64 : Int) < (m.ar.length : Int)) = true := by simp; omega
            clear hlen l1 l2 l3
            go_wp2_with fail
            go_ret
            exact ⟨by rw [HF.out]; first | done | rfl, B0⟩
end Go.Proofs.Ytjklgdpffmaamaa.Wm

namespace Go.Proofs.Ytjklgdpffmaamaa.Wr
open Go.RowKit Go.PlainAid Go.Proofs.Ytjklgdpffmaamaa.Base Go.Proofs.Ytjklgdpffmaamaa.Oct Go.Proofs.Ytjklgdpffmaamaa.Nm
set_option linter.unusedVariables false
/-- What a list of rests and places says of a rest: its first place. -/
def mOf : List (ByteArray × Int) → ByteArray → Option Int
  | [], _ => none
  | (r, t) :: ms, x => if r = x then some t else mOf ms x
theorem mOf_app (a b : List (ByteArray × Int)) (x : ByteArray) : mOf (a ++ b) x = match mOf a x with
    | some t => some t
    | none => mOf b x := by
  induction a with
  | nil => rfl
  | cons p a ih =>
    obtain ⟨r, t⟩ := p
    show (if r = x then some t else mOf (a ++ b) x) = _
    by_cases h : r = x
    · rw [if_pos h]; simp [mOf, h]
    · rw [if_neg h, ih]; simp [mOf, h]
/-- What is put: so many rests of a name, each at its place. -/
def freshN (s : ByteArray) (at0 : Nat) (ps : List Nat) : List (ByteArray × Int) := ps.map fun p => (s.extract p s.size, (at0 : Int) + (p : Int))
theorem fresh_miss (s x : ByteArray) (at0 : Nat) : ∀ ps : List Nat, (∀ p ∈ ps, s.extract p s.size ≠ x) → mOf (freshN s at0 ps) x = none := by
  intro ps
  induction ps with
  | nil => intro _; rfl
  | cons p ps ih =>
    intro h
    show (if s.extract p s.size = x then _ else mOf (freshN s at0 ps) x) = none
    rw [if_neg (h p (List.mem_cons_self ..)), ih fun q hq => h q (List.mem_cons_of_mem _ hq)]
theorem fresh_hit (s x : ByteArray) (at0 p0 : Nat) (hx : s.extract p0 s.size = x) : ∀ ps : List Nat, p0 ∈ ps → (∀ p ∈ ps, s.extract p s.size = x → p = p0) → mOf (freshN s at0 ps) x = some ((at0 : Int) + p0) := by
  intro ps
  induction ps with
  | nil => intro h; cases h
  | cons p ps ih =>
    intro h hu
    show (if s.extract p s.size = x then some ((at0 : Int) + (p : Int)) else mOf (freshN s at0 ps) x) = _
    by_cases e : s.extract p s.size = x
    · obtain rfl := hu p (List.mem_cons_self ..) e
      rw [if_pos e]
    · rw [if_neg e]
      refine ih ?_ fun q hq => hu q (List.mem_cons_of_mem _ hq)
      rcases List.mem_cons.1 h with h | h
      · subst h; exact absurd hx e
      · exact h
theorem find_new (m : ByteArray → Option Int) (s : ByteArray) : ∀ (ps : List Nat) (i : Nat), ∀ p ∈ ps.take (wroteF i ps.length (findP m s ps i)), m (s.extract p s.size) = none := by
  intro ps
  induction ps with
  | nil => intro i p hp; simp at hp
  | cons a ps ih =>
    intro i p hp
    rw [findP] at hp
    cases hm : m (s.extract a s.size) with
    | some t => rw [hm] at hp; simp [wroteF] at hp
    | none =>
      rw [hm] at hp
      have hge := fun j q t => find_ge m s ps (i + 1) j q t
      have ih := ih (i + 1)
      simp only at hp
      generalize findP m s ps (i + 1) = f at hp hge ih
      have e : wroteF i (a :: ps).length f = wroteF (i + 1) ps.length f + 1 := by
        match f, hge with
        | none, _ => rfl
        | some (j, q, t), hge => have := (hge j q t rfl).1; show j - i = j - (i + 1) + 1; omega
      rw [e, List.take_succ_cons] at hp
      rcases List.mem_cons.1 hp with rfl | hp
      · exact hm
      · exact ih p hp
theorem wrote_is (m : ByteArray → Option Int) (s : ByteArray) : wroteN m s = wroteF 0 (heads s).length (findP m s (heads s) 0) := by
  unfold wroteN
  cases findP m s (heads s) 0 with
  | none => rfl
  | some r => obtain ⟨i, p, t⟩ := r; rfl
theorem new_none (m : ByteArray → Option Int) (s : ByteArray) : ∀ p ∈ (heads s).take (wroteN m s), m (s.extract p s.size) = none := by
  rw [wrote_is]; exact find_new m s _ 0
theorem heads_lt {s : ByteArray} {p : Nat} (h : p ∈ heads s) : p < s.size := placesAt_mem s _ 0 (Nat.le_refl _) p (List.dropLast_subset _ h)
/-- The list behind the name says what the map says. -/
theorem mOf_put (ms : List (ByteArray × Int)) (s : ByteArray) (at0 : Nat) : mOf (ms ++ freshN s at0 ((heads s).take (wroteN (mOf ms) s))) = putN (mOf ms) s at0 := by
  funext x
  have hnone := new_none (mOf ms) s
  unfold putN
  have hlt : ∀ p ∈ (heads s).take (wroteN (mOf ms) s), p < s.size := fun p hp => heads_lt (List.mem_of_mem_take hp)
  generalize (heads s).take (wroteN (mOf ms) s) = ps at *
  rw [mOf_app]
  by_cases hit : ∃ p ∈ ps, s.extract p s.size = x
  · obtain ⟨p0, hp0, hx⟩ := hit
    have hu : ∀ p ∈ ps, s.extract p s.size = x → p = p0 := fun p hp e => rest_inj s p p0 (Nat.le_of_lt (hlt p hp)) (Nat.le_of_lt (hlt p0 hp0)) (e.trans hx.symm)
    rw [putK_hit s x at0 p0 hx ps _ hp0 hu, ← hx, hnone p0 hp0, hx]
    exact fresh_hit s x at0 p0 hx ps hp0 hu
  · have hm : ∀ p ∈ ps, s.extract p s.size ≠ x := fun p hp e => hit ⟨p, hp, e⟩
    rw [putK_miss s x at0 ps _ hm, fresh_miss s x at0 ps hm]
    cases mOf ms x <;> rfl
/-- All places lie below the greatest that a pointer tells. -/
def Small (m : ByteArray → Option Int) : Prop := ∀ x t, m x = some t → 0 ≤ t ∧ t < 16384
theorem Small.put {m : ByteArray → Option Int} (h : Small m) (s : ByteArray) (at0 : Nat) (hz : at0 + s.size ≤ 16384) : Small (putN m s at0) := by
  intro x t hx
  rcases putK_inv s x at0 t _ _ hx with hx | ⟨p, hp, _, rfl⟩
  · exact h x t hx
  · have := heads_lt (List.mem_of_mem_take hp); omega
theorem or_place (t : Int) (h0 : 0 ≤ t) (h1 : t < 16384) : Go.bits .or .i64 49152 t = 49152 + t := by
  have := Pu.or_shl 14 (by decide) 3 t (by decide) (by omega) (by omega) (by omega)
  simpa using this
end Go.Proofs.Ytjklgdpffmaamaa.Wr

namespace Go.Proofs.Ytjklgdpffmaamaa.Wr
open Go.RowKit Go.PlainAid Go.Maps Go.Proofs.Ytjklgdpffmaamaa.Base Go.Proofs.Ytjklgdpffmaamaa.Oct Go.Proofs.Ytjklgdpffmaamaa.Nm Go.Proofs.YtjklgdpffmaamaaW.PrintWords
set_option linter.unusedVariables false
/-- The cells of rests and places. -/
def mcells : List (ByteArray × Int) → List Value
  | [] => []
  | (r, t) :: ms => .string r :: .int .i64 t :: mcells ms
theorem mcells_app (a b : List (ByteArray × Int)) : mcells (a ++ b) = mcells a ++ mcells b := by
  induction a with
  | nil => rfl
  | cons p a ih => obtain ⟨r, t⟩ := p; simp [mcells, ih]
theorem mcells_len (a : List (ByteArray × Int)) : (mcells a).length = a.length * 2 := by
  induction a with
  | nil => rfl
  | cons p a ih => obtain ⟨r, t⟩ := p; simp [mcells, ih]; omega
theorem mcells_at (a : List (ByteArray × Int)) (j : Nat) (h : j < a.length) : (mcells a)[j * 2]? = some (.string (a.getD j (⟨#[]⟩, 0)).1) ∧ (mcells a)[j * 2 + 1]? = some (.int .i64 (a.getD j (⟨#[]⟩, 0)).2) := by
  induction a generalizing j with
  | nil => cases h
  | cons p a ih =>
    obtain ⟨r, t⟩ := p
    cases j with
    | zero => exact ⟨rfl, rfl⟩
    | succ j =>
      have := ih j (by simpa using h)
      rw [show (j + 1) * 2 = j * 2 + 1 + 1 by omega]
      simpa [mcells] using this
theorem mcells_one (a : List (ByteArray × Int)) : ∀ u ∈ mcells a, u.oneCell' = true := by
  induction a with
  | nil => intro u h; cases h
  | cons p a ih =>
    obtain ⟨r, t⟩ := p
    intro u h
    rcases List.mem_cons.1 h with rfl | h
    · rfl
    · rcases List.mem_cons.1 h with rfl | h
      · rfl
      · exact ih u h
/-- What the document's writer holds: its bytes, the rests and their places. -/
structure Rf (base : Nat) (w : World) (g : Nat) (v : Value) (S : ByteArray) (ms : List (ByteArray × Int)) : Prop where
  gb : base ≤ g
  blk : w.heap[g]? = some (.cells #[.string S, v] 78 (0, 0))
  own : w.ownsRow base 131 2 v ms.length (mcells ms)
  len : S.size ≤ 4096
  few : ms.length ≤ 256 * S.size
/-- What a call on the document's writer leaves as it was. -/
structure Kr (w w' : World) (g : Nat) : Prop where
  size : w.heap.size ≤ w'.heap.size
  block : ∀ k, k < w.heap.size → k ≠ g → (∀ cs, w.heap[k]? ≠ some (.cells cs 131 (0, 0))) → w'.heap[k]? = w.heap[k]?
section
variable {base b' g gm g2 size n : Nat} {v vs v2 : Value} {xs : List Int} {ys : List Value} {m : ByteArray → Option Int} {w w' w1 : World} {e : TypeId} {S : ByteArray} {ms : List (ByteArray × Int)}
theorem Kr.refl (w : World) (g : Nat) : Kr w w g := ⟨Nat.le_refl _, fun _ _ _ _ => rfl⟩
theorem Kr.below (hb : Below w.heap.size w w') : Kr w w' g := ⟨hb.size, fun k hk _ _ => hb.block k hk⟩
theorem Kr.trans (h : Kr w w1 g) (k : Kr w1 w' g) : Kr w w' g :=
  ⟨Nat.le_trans h.size k.size, fun i hi a c => by
    have e := h.block i hi a c
    exact (k.block i (Nat.lt_of_lt_of_le hi h.size) a (fun cs => by rw [e]; exact c cs)).trans e⟩
theorem Rf.base_le (H : Rf base w g v S ms) : base ≤ w.heap.size := Nat.le_trans H.gb (Nat.le_of_lt (blk_lt H.blk))
theorem Rf.below (H : Rf base w g v S ms) (hb : Below w.heap.size w w') : Rf base w' g v S ms := ⟨H.gb, blk_below H.blk hb, pw_own_below H.own hb, H.len, H.few⟩
theorem own_keep (h : w.ownsRow base e size v n ys) (hr : ∀ k, v.ownBlock = some k → w'.heap[k]? = w.heap[k]?) : w'.ownsRow base e size v n ys := by
  refine ⟨h.1, ?_⟩
  rcases h.2 with h2 | ⟨k, cap, cur, rfl, hg, hh, r⟩
  · exact .inl h2
  · exact .inr ⟨k, cap, cur, rfl, hg, (hr k rfl).trans hh, r⟩
theorem Wr.keep (H : Wr base w g gm v xs m) (hg : w'.heap[g]? = w.heap[g]?) (hm : w'.heap[gm]? = w.heap[gm]?) (hr : ∀ k, v.ownBlock = some k → w'.heap[k]? = w.heap[k]?) : Wr base w' g gm v xs m := by
  obtain ⟨n, D, hn, ⟨es, clock, hb, F⟩, ht⟩ := H.map
  exact ⟨H.gb, H.mb, hg.trans H.blk, own_keep H.own hr, ⟨n, D, hn, ⟨es, clock, hm.trans hb, F⟩, ht⟩, H.len⟩
theorem Rf.keep (R : Rf base w g v S ms) (hg : w'.heap[g]? = w.heap[g]?) (hr : ∀ k, v.ownBlock = some k → w'.heap[k]? = w.heap[k]?) : Rf base w' g v S ms :=
  ⟨R.gb, hg.trans R.blk, own_keep R.own hr, R.len, R.few⟩
theorem Wr.map_blk (H : Wr base w g gm v xs m) : ∃ es c, w.heap[gm]? = some (.map es c) := by
  obtain ⟨n, D, hn, ⟨es, clock, hb, F⟩, ht⟩ := H.map
  exact ⟨es, clock, hb⟩
/-- The writer beside, behind a call on the document's. -/
theorem Wr.kr (H : Wr base w g gm v xs m) (R : Rf b' w g2 v2 S ms) (K : Kr w w' g2) : Wr base w' g gm v xs m := by
  obtain ⟨es, c, hm⟩ := H.map_blk
  refine H.keep (K.block g (blk_lt H.blk) (blk_ne H.blk R.blk (by decide)) ?_) (K.block gm (blk_lt hm) ?_ ?_) fun k hk => ?_
  · intro cs q; rw [H.blk] at q; injection q with q; injection q with _ q; exact absurd q (by decide)
  · rintro rfl; rw [R.blk] at hm; cases hm
  · intro cs q; rw [hm] at q; cases q
  · obtain ⟨cells, hc⟩ := own_typed H.own k hk
    refine K.block k (blk_lt hc) (blk_ne hc R.blk (by decide)) ?_
    intro cs q; rw [hc] at q; injection q with q; injection q with _ q; exact absurd q (by decide)
/-- The document's writer beside, behind a call on the writer. -/
theorem Rf.kp (R : Rf b' w g2 v2 S ms) (H : Wr base w g gm v xs m) (K : Kp w w' g gm) : Rf b' w' g2 v2 S ms := by
  obtain ⟨es, c, hm⟩ := H.map_blk
  refine R.keep (K.block g2 (blk_lt R.blk) (blk_ne R.blk H.blk (by decide)) ?_ ?_) fun k hk => ?_
  · rintro rfl; rw [R.blk] at hm; cases hm
  · intro cs q; rw [R.blk] at q; injection q with q; injection q with _ q; exact absurd q (by decide)
  · obtain ⟨cells, hc⟩ := own_typed R.own k hk
    refine K.block k (blk_lt hc) (blk_ne hc H.blk (by decide)) ?_ ?_
    · rintro rfl; rw [hc] at hm; cases hm
    · intro cs q; rw [hc] at q; injection q with q; injection q with _ q; exact absurd q (by decide)
theorem rall (R : Rf base w g v S ms) : Calls Try.prog 43 #[ptr g] w fun e w' => e = .returned (.string S) ∧ w' = w := by
  have c0 : w.cell? ⟨g, 0, none⟩ = some (.string S) := (blk_cell R.blk 0).trans rfl
  go_enter Try.func43, Try.ntmps43
  go_wp2
  go_ret
  exact ⟨rfl, rfl⟩
theorem rrawLong (R : Rf base w g v S ms) (s : ByteArray) (hl : 4096 < S.size + s.size) :
    Calls Try.prog 39 #[ptr g, .string s] w fun e w' => e = .returned (.int .i64 501) ∧ w' = w := by
  have c0 : w.cell? ⟨g, 0, none⟩ = some (.string S) := (blk_cell R.blk 0).trans rfl
  have hx := R.len
  have q : decide (4096 - (S.size : Int) < (s.size : Int)) = true := by simp; omega
  go_enter Try.func39, Try.ntmps39
  go_wp2
  go_ret
  exact ⟨rfl, rfl⟩
theorem Rf.stored (R : Rf base w g v S ms) (s : ByteArray) (hs : S.size + s.size ≤ 4096) : Rf base (w.setCell ⟨g, 0, none⟩ (.string (S ++ s))) g v (S ++ s) ms ∧ Below base w (w.setCell ⟨g, 0, none⟩ (.string (S ++ s))) ∧ Kr w (w.setCell ⟨g, 0, none⟩ (.string (S ++ s))) g := by
  refine ⟨⟨R.gb, blk_put R.blk 0 _ rfl, own_setCell R.own (own_ne R.own R.blk (by decide)) _, by rw [ByteArray.size_append]; omega, by rw [ByteArray.size_append]; have := R.few; omega⟩, (Below.refl base w).setCell R.gb _, ⟨by simp [World.setCell], fun k hk h1 h2 => Below.heap_setCell w _ _ k h1⟩⟩
theorem rrawOk (R : Rf base w g v S ms) (s : ByteArray) (hl : S.size + s.size ≤ 4096) :
    Calls Try.prog 39 #[ptr g, .string s] w fun e w' => e = .returned (.int .i64 0) ∧ Rf base w' g v (S ++ s) ms ∧ Below base w w' ∧ Kr w w' g := by
  have c0 : w.cell? ⟨g, 0, none⟩ = some (.string S) := (blk_cell R.blk 0).trans rfl
  have f0 := blk_frozen R.blk 0
  have hx := R.len
  have q : decide (4096 - (S.size : Int) < (s.size : Int)) = false := by simp; omega
  have n1 : ¬ 9223372036854775807 < S.size + s.size := by omega
  go_enter Try.func39, Try.ntmps39
  go_wp2
  go_ret
  exact ⟨rfl, R.stored s hl⟩
/-- Where a rest stands; -1: nowhere. -/
def placeM (ms : List (ByteArray × Int)) (x : ByteArray) : Int := (mOf ms x).getD (-1)
theorem mOf_at (ms : List (ByteArray × Int)) (x : ByteArray) (i : Nat) (h : i < ms.length) : mOf (ms.drop i) x = if (ms.getD i (⟨#[]⟩, 0)).1 = x then some (ms.getD i (⟨#[]⟩, 0)).2 else mOf (ms.drop (i + 1)) x := by
  rw [List.drop_eq_getElem_cons h, List.getD_eq_getElem?_getD, List.getElem?_eq_getElem h]
  rfl
set_option maxHeartbeats 2000000 in
theorem rplace (R : Rf base w g v S ms) (x : ByteArray) : Calls Try.prog 71 #[ptr g, .string x] w fun e w' => e = .returned (.int .i64 (placeM ms x)) ∧ w' = w := by
  have c1 : w.cell? ⟨g, 1, none⟩ = some v := (blk_cell R.blk 1).trans rfl
  have hlen : ms.length ≤ 1048576 := by have := R.len; have := R.few; omega
  obtain ⟨A, c, rfl, hc, hcell⟩ : ∃ A c, v = .slice A ms.length c ∧ ms.length ≤ c ∧ (ms.length = 0 ∨ ∃ k, A = some ⟨k, 0, none⟩ ∧ ∀ j, j < ms.length → w.cell? ⟨k, j * 2, none⟩ = some (.string (ms.getD j (⟨#[]⟩, 0)).1) ∧ w.cell? ⟨k, j * 2 + 1, none⟩ = some (.int .i64 (ms.getD j (⟨#[]⟩, 0)).2)) := by
    have ad : ∀ (k j : Nat), ((⟨k, 0, none⟩ : Addr).add j) = ⟨k, j, none⟩ := by
      intro k j
      unfold Addr.add
      split
      · simp_all
      · simp
    rcases R.own.2 with ⟨rfl, h0⟩ | ⟨k, cap, cur, rfl, hg, hh, hcc⟩
    · exact ⟨none, 0, by simp_all, by simp_all, .inl (by simp_all)⟩
    · refine ⟨_, _, rfl, by obtain ⟨a, b, _⟩ := hcc; omega, .inr ⟨k, rfl, fun j hj => ?_⟩⟩
      have h1 := R.own.cells (g := k) rfl _ _ (mcells_at ms j hj).1
      have h2 := R.own.cells (g := k) rfl _ _ (mcells_at ms j hj).2
      rw [ad] at h1 h2
      exact ⟨h1, h2⟩
  go_enter Try.func71, Try.ntmps71
  go_wp2
  go_loopg [5] (ms.length + 1) (fun k v5 wr => ∃ i : Nat, v5 = .int .i64 i ∧ i + k = ms.length + 1 ∧ i ≤ ms.length ∧ mOf ms x = mOf (ms.drop i) x ∧ wr = w)
  case atStart => exact ⟨0, rfl, by omega, by omega, rfl, rfl⟩
  case round =>
    obtain ⟨i, rfl, hk1, hk2, hf, rfl⟩ := hrel
    have HF := Lib.hid hf
    clear hf
    by_cases hi : i < ms.length
    · have q0 : decide ((i : Int) < (ms.length : Int)) = true := by simp; omega
      obtain ⟨k, rfl, hca⟩ : ∃ k, A = some ⟨k, 0, none⟩ ∧ ∀ j, j < ms.length → wr.cell? ⟨k, j * 2, none⟩ = some (.string (ms.getD j (⟨#[]⟩, 0)).1) ∧ wr.cell? ⟨k, j * 2 + 1, none⟩ = some (.int .i64 (ms.getD j (⟨#[]⟩, 0)).2) := by
        rcases hcell with h | h
        · omega
        · exact h
      have h1 := (hca i hi).1
      have h2 := (hca i hi).2
      have hm := mOf_at ms x i hi
      generalize ms.getD i (⟨#[]⟩, 0) = p at *
      obtain ⟨r, t⟩ := p
      simp only at h1 h2 hm
      have HM := Lib.hid hm
      clear hm hca hcell
      by_cases hr : r = x
      · subst hr
        go_wp2
        go_ret
        have e : placeM ms r = t := by unfold placeM; rw [HF.out, HM.out]; simp
        exact ⟨by rw [e]; rfl, rfl⟩
      · have qx : (r.toList == x.toList) = false := by rw [beq_eq_false_iff_ne]; exact fun e => hr (Pu.toList_inj e)
        go_wp2
        go_roundg (gk - 1)
        case measure => omega
        case rel => exact ⟨i + 1, rfl, by omega, by omega, by rw [HF.out, HM.out, if_neg hr], rfl⟩
    · have q0 : decide ((i : Int) < (ms.length : Int)) = false := by simp; omega
      go_wp2
      go_ret
      obtain rfl : i = ms.length := by omega
      have e : placeM ms x = -1 := by unfold placeM; rw [HF.out, List.drop_length]; rfl
      exact ⟨by rw [e]; rfl, rfl⟩
end
end Go.Proofs.Ytjklgdpffmaamaa.Wr

namespace Go.Proofs.Ytjklgdpffmaamaa.Wr
open Go.RowKit Go.PlainAid Go.Maps Go.Proofs.Ytjklgdpffmaamaa.Base Go.Proofs.Ytjklgdpffmaamaa.Oct Go.Proofs.Ytjklgdpffmaamaa.Nm
open Go.Proofs.YtjklgdpffmaamaaW.PrintWords (blk_cell blk_put blk_frozen own_setCell own_ne own_nil own_other own_type_ne blk_grown)
set_option linter.unusedVariables false
section
variable {P : Program} {ops : Array Oper} {rest : List Oper} {o : Oper} {a : Act} {Q : Exit → Act → World → Prop}
/-- append(v, ys...), ys a row of one's own, nil let in. -/
theorem app_cells {W : World} (base : Nat) (hgd : o.guard = none) (s x : Operand) (t e : TypeId) (z : Value) (size bytes : Nat)
    (ho : o.op = .call { callee := .builtin .append, args := #[s, x], argTypes := #[t, t] })
    (ht : P.underlying t = some (.slice e)) (hinfo : (P.info? e).map (fun i => (i.zero, i.size, i.bytes)) = some (some z, size, bytes)) (hz : z.cells.size = size) (hs0 : 0 < size) (hb0 : 0 < bytes)
    {v vf : Value} {n m b2 : Nat} {xs ys : List Value} (HO : W.ownsRow base e size v n xs) (HF : W.ownsRow b2 e size vf m ys) (h1 : ∀ u ∈ ys, u.oneCell' = true) (hs : a.eval s = v) (hx : a.eval x = vf)
    (hbase : base ≤ W.heap.size) (hl : (n + m) * bytes ≤ 140737488355328)
    (h : ∀ v1 w1, w1.ownsRow base e size v1 (n + m) (xs ++ ys) → W.grownBy w1 v.ownBlock → wpList P ops Q rest (a.put o.dst v1) w1) :
    wpList P ops Q (o :: rest) a W := by
  obtain ⟨i0, hi, hzz⟩ := Option.map_eq_some_iff.1 hinfo
  simp only [Prod.mk.injEq] at hzz
  obtain ⟨hz0, hz1, hz2⟩ := hzz
  have hlen : n + m ≤ 140737488355328 := Nat.le_trans (Nat.le_mul_of_pos_right _ hb0) hl
  have hm : ys.length = m * size := HF.1
  rcases HF.2 with ⟨rfl, h0⟩ | ⟨gf, cap, cur, rfl, hg, hh, hcc⟩
  · have h0 : m = 0 := by simp_all
    subst h0
    obtain rfl : ys = [] := List.eq_nil_of_length_eq_zero (by simpa using hm)
    have hr : (Builtin.append_ #[t, t] o.type #[v, .slice none 0 0]).run P W = .ok v W := by
      rcases HO.2 with ⟨rfl, hn⟩ | ⟨g, cap, cur, rfl, _, _, hnc, _⟩
      · simp [Builtin.append_, run_underlying ht, sizeOf, typeInfo, hi, Builtin.lenOf, Builtin.firstCells]
      · simp [Builtin.append_, run_underlying ht, sizeOf, typeInfo, hi, Builtin.lenOf, Builtin.firstCells, hnc, storeCells]
    refine wpList_plain hgd fun K hK => ?_
    unfold Oper.wp execOp
    simp only [ho, resolve, invoke, builtin, Sem.run_bind, Sem.run_pure, Result.andThen_ok, List.map_toArray, List.map_cons, List.map_nil, hs, hx, hr]
    exact hK _ _ (h v W (by simpa using HO) (World.grownBy.refl W _))
  · refine wpList_append_own W hgd s x t ho base e i0 z size bytes ht hi hz0 hz1 hz2 hz hs0 v n xs hs HO ⟨gf, 0, none⟩ m cap ys hx hm ?_ h1 (by simp only [maxLen]; omega) hl hbase ?_
    · intro j u hj
      exact HF.cells (g := gf) rfl j u hj
    · intro v1 w1 hown hg _
      exact h v1 w1 hown hg
end
theorem info_mark : (Try.prog.info? 131).map (fun i => (i.zero, i.size, i.bytes)) = some (some (.agg #[.string ⟨#[]⟩, .int .i64 0]), 2, 24) := by kernel_rfl
section
variable {base g : Nat} {v : Value} {w : World} {S : ByteArray} {ms : List (ByteArray × Int)}
set_option maxHeartbeats 4000000 in
set_option maxRecDepth 100000 in
theorem rname (R : Rf base w g v S ms) (s : ByteArray) (hs : nameB s = true) (hsm : Small (mOf ms)) :
    Calls Try.prog 40 #[ptr g, .string s] w fun e w' =>
      if 4096 < S.size + (outN (mOf ms) s).size then e = .returned (.int .i64 501) ∧ Rf base w' g v S ms ∧ Below base w w' ∧ Kr w w' g
      else e = .returned (.int .i64 0) ∧ ∃ v', Rf base w' g v' (S ++ outN (mOf ms) s) (ms ++ freshN s S.size ((heads s).take (wroteN (mOf ms) s))) ∧ Below base w w' ∧ Kr w w' g := by
  obtain ⟨n1, n2, n3⟩ := name_first hs
  have hx := R.len
  go_enter Try.func40, Try.ntmps40
  go_wp2_with fail
  refine (rmay s _).mono ?_
  rintro e w1 ⟨rfl, B1⟩
  rw [hs]
  have R1 := R.below B1
  go_upto_block 0 with (fail)
  go_cut [5, 6, 7] (fun v5 v6 v7 wc => ∃ (o l : ByteArray), v5 = .string o ∧ v6 = .string l ∧ ((l = root ∧ o ++ root = outN (mOf ms) s) ∨ (l ≠ root ∧ o = outN (mOf ms) s)) ∧ wc.ownsRow w1.heap.size 131 2 v7 (wroteN (mOf ms) s) (mcells (freshN s S.size ((heads s).take (wroteN (mOf ms) s)))) ∧ Below w1.heap.size w1 wc)
  case first =>
    go_wp2
    go_loopg [5, 6, 7] s.size (fun k v5 v6 v7 wr => ∃ p i : Nat, v5 = .string (s.extract 0 p) ∧ v6 = .string (s.extract p s.size) ∧ p + k = s.size ∧ nameAt s p = true ∧ (placesAt s p).dropLast = (heads s).drop i ∧ i ≤ (heads s).length ∧ i ≤ p ∧ findP (mOf ms) s (heads s) 0 = findP (mOf ms) s ((heads s).drop i) i ∧ wr.ownsRow w1.heap.size 131 2 v7 i (mcells (freshN s S.size ((heads s).take i))) ∧ Below w1.heap.size w1 wr)
    case atStart => exact ⟨0, 0, by simp; rfl, by rw [ext0], by omega, n3, by simp [heads, places], by omega, by omega, by simp, Go.Proofs.YtjklgdpffmaamaaW.PrintWords.own_nil _ _ _ _, Below.refl _ _⟩
    case round =>
      obtain ⟨p, i, rfl, rfl, hk, hn, hpl, hi1, hi2, hf, hfr, hb⟩ := hrel
      have HF := Lib.hid hf
      have HPL := Lib.hid hpl
      have HN := Lib.hid hn
      clear hf hpl hn
      have zo : (s.extract 0 p).size = p := by rw [ByteArray.size_extract]; omega
      have zl : (s.extract p s.size).size = s.size - p := by rw [ByteArray.size_extract]; omega
      have hp : p < s.size := by
        by_cases h : p < s.size
        · exact h
        · have := HN.out; rw [nameAt_out (by omega)] at this; cases this
      have hbl : bt (s.extract p s.size) 0 = bt s p := by
        rw [bt_data, bt_data, ext_list, List.getD_eq_getElem?_getD, List.getD_eq_getElem?_getD, List.getElem?_drop, List.getElem?_take_of_lt (by omega), Nat.add_zero]
      by_cases h0 : bt s p = 0
      · have he : p + 1 = s.size := by have := HN.out; rw [nameAt_end hp h0] at this; simpa using this
        have er := ext_root he h0
        rw [er]
        go_wp2
        go_meet
        case rel =>
          have hd : (heads s).drop i = [] := by rw [← HPL.out, placesAt_end hp h0]; rfl
          have hi : i = (heads s).length := by
            have := congrArg List.length hd
            rw [List.length_drop, List.length_nil] at this; omega
          have hnone : findP (mOf ms) s (heads s) 0 = none := by rw [HF.out, hd]; rfl
          have ew : wroteN (mOf ms) s = i := by unfold wroteN; rw [hnone, hi]
          have eo : outN (mOf ms) s = s := by unfold outN; rw [hnone]
          exact ⟨s.extract 0 p, root, rfl, rfl, .inl ⟨rfl, by rw [eo, ← er, ext_join s 0 p s.size (by omega) (by omega), ext0]⟩, by rw [ew]; exact hfr, hb⟩
      · have hne : s.extract p s.size ≠ root := fun e => h0 (by rw [← hbl, e]; exact root_bt)
        have q0 : ((s.extract p s.size).toList == [0]) = false := by
          rw [beq_eq_false_iff_ne]; exact fun e => hne (Pu.toList_inj (e.trans (show [0] = root.toList by decide +kernel)))
        have h63 : bt s p ≤ 63 := by
          by_cases h1 : 63 < bt s p
          · have := HN.out; rw [nameAt_bad hp h1] at this; cases this
          · omega
        obtain ⟨k, hk'⟩ : ∃ k : Nat, bt s p = (k : Int) := ⟨(bt s p).toNat, by have := bt_nonneg s p; omega⟩
        have hn2 := HN.out
        rw [nameAt_next hp h0 h63, hk', Int.toNat_natCast] at hn2
        have hq : p + 1 + k < s.size := by
          by_cases h : p + 1 + k < s.size
          · exact h
          · rw [nameAt_out (by omega)] at hn2; cases hn2
        have hd : (heads s).drop i = p :: (placesAt s (p + 1 + k)).dropLast := by
          rw [← HPL.out, placesAt_next hp h0 h63, hk', Int.toNat_natCast, List.dropLast_cons_of_ne_nil (places_ne _ _ hn2)]
        have hil : i < (heads s).length := by
          have := congrArg List.length hd
          rw [List.length_drop, List.length_cons] at this; omega
        have hd2 : (placesAt s (p + 1 + k)).dropLast = (heads s).drop (i + 1) := by
          rw [List.drop_eq_getElem_cons hil] at hd
          exact (List.cons.inj hd).2.symm
        have htk : (heads s).take (i + 1) = (heads s).take i ++ [p] := by
          rw [List.take_succ_eq_append_getElem hil]
          rw [List.drop_eq_getElem_cons hil] at hd
          rw [(List.cons.inj hd).1]
        have e1 : s.extract 0 p ++ (s.extract p s.size).extract 0 (1 + k) = s.extract 0 (p + 1 + k) := by
          apply ext_of
          rw [app_list, ext_list, ext_list, ext_list, ext_list]
          have := ext_join s 0 p (p + 1 + k) (by omega) (by omega)
          have h2 := congrArg (fun z : ByteArray => z.data.toList) this
          simp only [app_list, ext_list] at h2
          rw [← h2]
          congr 1
          rw [List.drop_zero, List.take_drop, List.take_take, show min (p + (1 + k)) s.size = p + 1 + k by omega]
        have e2 : (s.extract p s.size).extract (1 + k) (s.extract p s.size).size = s.extract (p + 1 + k) s.size := by
          apply ext_of
          rw [zl, ext_list, ext_list, ext_list, List.take_of_length_le (by rw [List.length_drop, List.length_take, len_data]; omega), List.drop_drop, show p + (1 + k) = p + 1 + k by omega]
        have hk63 : k ≤ 63 := by omega
        rw [hk'] at hbl
        have HNE := Lib.hid hne
        have HD := Lib.hid hd
        have HD2 := Lib.hid hd2
        have HTK := Lib.hid htk
        have HN2 := Lib.hid hn2
        clear hne hd hd2 htk hn2 hk'
        generalize hL : s.extract p s.size = l at *
        generalize hO : s.extract 0 p = o at *
        have HL := Lib.hid hL
        have HO := Lib.hid hO
        have E1 := Lib.hid e1
        have E2 := Lib.hid e2
        clear hL hO e1 e2
        have R2 := R1.below hb
        go_wp2_with fail
        refine (rplace R2 l).mono ?_
        rintro e w2 ⟨rfl, rfl⟩
        cases hmo : mOf ms l with
        | some t =>
          have ht := hsm _ _ hmo
          have pm : placeM ms l = t := by unfold placeM; rw [hmo]; rfl
          rw [pm]
          have q1 : decide ((0 : Int) ≤ t) = true := by simp; omega
          have HMO := Lib.hid hmo
          clear hmo pm
          go_wp2_with fail
          refine (rbe2 (49152 + t) _).mono ?_
          rintro e w3 ⟨rfl, B3⟩
          have zb := p16_size (49152 + t)
          have n1 : ¬ 9223372036854775807 < o.size + (p16 (49152 + t)).size := by omega
          go_wp2
          go_meet
          case rel =>
            have hfound : findP (mOf ms) s (heads s) 0 = some (i, p, t) := by rw [HF.out, HD.out, findP, HL.out, HMO.out]
            have ew : wroteN (mOf ms) s = i := by unfold wroteN; rw [hfound]
            have eo : outN (mOf ms) s = o ++ p16 (49152 + t) := by
              unfold outN; rw [hfound]
              show s.extract 0 p ++ p16 (Go.bits .or .i64 49152 t) = _
              rw [HO.out, or_place t ht.1 ht.2]
            exact ⟨_, l, rfl, rfl, .inr ⟨HNE.out, eo.symm⟩, by rw [ew]; exact Sl.own_below hfr B3, hb.trans (B3.mono hb.size)⟩
        | none =>
          have pm : placeM ms l = -1 := by unfold placeM; rw [hmo]; rfl
          rw [pm]
          have HMO := Lib.hid hmo
          clear hmo pm
          have c0 : w2.cell? ⟨g, 0, none⟩ = some (.string S) := (blk_cell R2.blk 0).trans rfl
          have q2 : decide ((S.size : Int) + (p : Int) ≤ 16383) = true := by simp; omega
          have sb := hb.size
          have qi : decide (0 < l.size) = true := decide_eq_true (by omega)
          have hgb := get_bt l
          have qs : decide ((1 : Int) + (k : Int) ≤ (l.size : Int)) = true := by simp; omega
          have zx : (l.extract 0 (1 + k)).size = 1 + k := by rw [ByteArray.size_extract]; omega
          have n1 : ¬ 9223372036854775807 < o.size + (l.extract 0 (1 + k)).size := by omega
          go_wp2_with (at_builtin; refine Sl.append_row (w0 := w1) w1.heap.size rfl _ _ 76 131 (.agg #[.string ⟨#[]⟩, .int .i64 0]) 2 24 rfl Try.underlying76 info_mark rfl (by decide) hfr #[.string l, .int .i64 ((S.size : Int) + (p : Int))] rfl rfl rfl ?h1 hb sb ?hn ?hl ?_)
          case h1 => exact ⟨rfl, rfl⟩
          case hn => omega
          case hl => omega
          intro v3 w3 hown3 hb3
          go_wp2
          go_roundg (s.size - (p + 1 + k))
          case measure => omega
          case rel =>
            refine ⟨p + 1 + k, i + 1, by rw [← E1.out], by rw [← E2.out, zl], by omega, HN2.out, HD2.out, by omega, by omega, by rw [HF.out, HD.out, findP, HL.out, HMO.out, HD2.out], ?_, hb3⟩
            rw [HTK.out]
            unfold freshN at hown3 ⊢
            rw [List.map_append, mcells_app]
            simpa [mcells, HL.out] using hown3
  case rest =>
  obtain ⟨o, l, rfl, rfl, hol, hfr, hb⟩ := hcut
  have R2 := R1.below hb
  have hso := outN_size (mOf ms) s hs
  have hw1 : wroteN (mOf ms) s ≤ 255 := by
    have h1 := places_pos hs
    have h2 := placesAt_len s s.size 0 (by omega)
    obtain ⟨K, hK⟩ : ∃ K, (places s).length = K + 1 := ⟨(places s).length - 1, by omega⟩
    have h3 := wroteN_le (mOf ms) s hK
    unfold places at hK
    omega
  have hop : 1 ≤ (outN (mOf ms) s).size := out_pos (mOf ms) s hs
  have hfl : (freshN s S.size ((heads s).take (wroteN (mOf ms) s))).length = wroteN (mOf ms) s := by
    have := hfr.1
    rw [mcells_len] at this; omega
  generalize hfe : freshN s S.size ((heads s).take (wroteN (mOf ms) s)) = fr at *
  generalize hwe : wroteN (mOf ms) s = nw at *
  generalize hoe : outN (mOf ms) s = out at *
  have HFE := Lib.hid hfe
  have HWE := Lib.hid hwe
  have HOE := Lib.hid hoe
  clear hfe hwe hoe
  have c0 : wc.cell? ⟨g, 0, none⟩ = some (.string S) := (blk_cell R2.blk 0).trans rfl
  have c1 : wc.cell? ⟨g, 1, none⟩ = some v := (blk_cell R2.blk 1).trans rfl
  have f0 := blk_frozen R2.blk 0
  have f1 := blk_frozen R2.blk 1
  have hfew := R2.few
  have hown := R2.own
  have hblk := R2.blk
  have hbase := R2.base_le
  obtain ⟨A, cA, rfl⟩ := Sl.own_slice R2.own
  have n2 : ¬ 9223372036854775807 < S.size + out.size := by omega
  have hoz : o.size ≤ 300 := by
    rcases hol with ⟨_, rfl⟩ | ⟨_, rfl⟩
    · rw [ByteArray.size_append] at hso; omega
    · omega
  have rootlit : root = ⟨#[0]⟩ := rfl
  by_cases hfit : 4096 < S.size + out.size
  · have q : decide ((4096 : Int) < (S.size : Int) + (out.size : Int)) = true := by simp; omega
    have HFIT : 4096 < S.size + (outN (mOf ms) s).size := by rw [HOE.out]; exact hfit
    clear hfit
    rcases hol with ⟨rfl, ho⟩ | ⟨hl, rfl⟩
    · have q0 : (root.toList == [0]) = true := by decide +kernel
      have n1 : ¬ 9223372036854775807 < o.size + 1 := by omega
      go_wp2
      go_ret
      exact ⟨rfl, R2, (B1.mono R.base_le).trans (hb.mono R1.base_le), (Kr.below B1).trans (Kr.below hb)⟩
    · have q0 : (l.toList == [0]) = false := by
        rw [beq_eq_false_iff_ne]; exact fun e => hl (Pu.toList_inj (e.trans (show [0] = root.toList by decide +kernel)))
      go_wp2
      go_ret
      exact ⟨rfl, R2, (B1.mono R.base_le).trans (hb.mono R1.base_le), (Kr.below B1).trans (Kr.below hb)⟩
  · have q : decide ((4096 : Int) < (S.size : Int) + (out.size : Int)) = false := by simp; omega
    have HFIT : ¬ 4096 < S.size + (outN (mOf ms) s).size := by rw [HOE.out]; exact hfit
    have hfs : S.size + out.size ≤ 4096 := by omega
    clear hfit
    have hown2 := own_setCell hown (own_ne hown hblk (by decide)) (p := ⟨g, 0, none⟩) (.string (S ++ out))
    have hfr2 := own_setCell hfr (own_ne hfr hblk (by decide)) (p := ⟨g, 0, none⟩) (.string (S ++ out))
    have hblk2 := blk_put hblk 0 (.string (S ++ out)) rfl
    have d1 := (blk_cell hblk2 1).trans rfl
    have B2 : Below base wc (wc.setCell ⟨g, 0, none⟩ (.string (S ++ out))) := (Below.refl base wc).setCell R2.gb _
    have K2 : Kr wc (wc.setCell ⟨g, 0, none⟩ (.string (S ++ out))) g := ⟨by simp [World.setCell], fun k hk h1 h2 => Below.heap_setCell wc _ _ k h1⟩
    have hgg : some g ≠ (Value.slice A ms.length cA).ownBlock := own_ne hown hblk (by decide)
    have fin : ∀ v1 w3, w3.ownsRow base 131 2 v1 (ms.length + nw) (mcells ms ++ mcells fr) → (wc.setCell ⟨g, 0, none⟩ (.string (S ++ out))).grownBy w3 (Value.slice A ms.length cA).ownBlock →
        Rf base (w3.setCell ⟨g, 1, none⟩ v1) g v1 (S ++ out) (ms ++ fr) ∧ Below base w (w3.setCell ⟨g, 1, none⟩ v1) ∧ Kr w (w3.setCell ⟨g, 1, none⟩ v1) g ∧ w3.frozen? ⟨g, 1, none⟩ = false := by
      intro v1 w3 ho3 hg3
      have b3 := blk_grown hblk2 hg3 hgg
      have hl3 : (ms ++ fr).length = ms.length + nw := by rw [List.length_append, hfl]
      refine ⟨⟨R2.gb, blk_put b3 1 v1 rfl, ?_, by rw [ByteArray.size_append]; omega, by rw [hl3, ByteArray.size_append]; omega⟩, ?_, ?_, blk_frozen b3 1⟩
      · rw [hl3, mcells_app]
        exact own_setCell ho3 (own_ne ho3 b3 (by decide)) _
      · exact ((B1.mono R.base_le).trans (hb.mono R1.base_le)).trans ((B2.grown hg3 (Nat.le_trans hbase B2.size) (fun k e => Sl.own_base hown k e)).setCell R2.gb _)
      · refine ((Kr.below B1).trans (Kr.below hb)).trans (K2.trans ⟨by have := hg3.size; simp [World.setCell] at this ⊢; omega, fun k hk h1 h2 => ?_⟩)
        refine (Below.heap_setCell w3 _ _ k h1).trans (hg3.block k hk ?_)
        intro e
        obtain ⟨cells, h⟩ := Go.Proofs.YtjklgdpffmaamaaW.PrintWords.own_typed hown2 k e.symm
        exact h2 cells h
    have FIN := Lib.hid fin
    clear fin
    rcases hol with ⟨rfl, ho⟩ | ⟨hl, rfl⟩
    · have q0 : (root.toList == [0]) = true := by decide +kernel
      have n1 : ¬ 9223372036854775807 < o.size + 1 := by omega
      go_wp2_with (at_builtin; refine app_cells base rfl _ _ 76 131 (.agg #[.string ⟨#[]⟩, .int .i64 0]) 2 24 rfl Try.underlying76 info_mark rfl (by decide) (by decide) hown2 hfr2 (mcells_one _) rfl rfl (by simpa [World.setCell] using hbase) ?hl ?_)
      case hl => omega
      intro v1 w3 ho3 hg3
      obtain ⟨F1, F2, F3, F4⟩ := FIN.out v1 w3 ho3 hg3
      have d3 := hg3.cell d1 hgg
      obtain ⟨A1, cc1, rfl⟩ := Sl.own_slice ho3
      go_wp2
      go_ret
      exact ⟨rfl, ⟨_, by rw [HOE.out, HWE.out, HFE.out]; exact F1⟩, F2, F3⟩
    · have q0 : (l.toList == [0]) = false := by
        rw [beq_eq_false_iff_ne]; exact fun e => hl (Pu.toList_inj (e.trans (show [0] = root.toList by decide +kernel)))
      go_wp2_with (at_builtin; refine app_cells base rfl _ _ 76 131 (.agg #[.string ⟨#[]⟩, .int .i64 0]) 2 24 rfl Try.underlying76 info_mark rfl (by decide) (by decide) hown2 hfr2 (mcells_one _) rfl rfl (by simpa [World.setCell] using hbase) ?hl ?_)
      case hl => omega
      intro v1 w3 ho3 hg3
      obtain ⟨F1, F2, F3, F4⟩ := FIN.out v1 w3 ho3 hg3
      have d3 := hg3.cell d1 hgg
      obtain ⟨A1, cc1, rfl⟩ := Sl.own_slice ho3
      go_wp2
      go_ret
      exact ⟨rfl, ⟨_, by rw [HOE.out, HWE.out, HFE.out]; exact F1⟩, F2, F3⟩
end
end Go.Proofs.Ytjklgdpffmaamaa.Wr
