/- wire.Get: what it answers, for every string. -/
import Derived.Deep.RegionHeld3
import Derived.Deep.CutBlock
import Derived.Test.YtjklgdpffmaamaaProg
import Derived.Below
import Derived.Deep.Draws
import Derived.Deep.AppendLies
import Derived.Maps.AppendAt
import Derived.OwnWalk
import Derived.Laws.BytesArg
import Derived.Laws.MakeOwn
import Derived.Laws.OwnMore
import Derived.Deep.OwnRows
import Derived.Tactics
import Derived.Lib.ConvBytes
import Derived.Laws.Slices
import Derived.WalkKit
import Derived.KernelRfl
import Derived.RowKit3
import Derived.Deep.LoopGhost
import Derived.Deep.QuietTactic
import Derived.BigQuiet
import Derived.WideLaws
import Derived.Deep.DeepCutAuto
import Derived.Laws.Rows
import Derived.Lib.AppendStr
import Derived.ArgAppend
import Derived.Laws.IdiomCopy
import Derived.OrdersHeld
import Derived.Laws.BitsLemmas
import Derived.RowKit
import Derived.Test.YtjklgdpffmaamaaSc1
import Derived.Test.YtjklgdpffmaamaaSc2
import Derived.Test.YtjklgdpffmaamaaSc3
namespace Go.Proofs.Ytjklgdpffmaamaa.Wm
open Go.RowKit Go.PlainAid Go.Maps Go.Proofs.Ytjklgdpffmaamaa.Base Go.Proofs.Ytjklgdpffmaamaa.Oct Go.Proofs.Ytjklgdpffmaamaa.Nm
open Go.Proofs.YtjklgdpffmaamaaW.PrintWords (blk_cell blk_below blk_put blk_frozen blk_ne blk_new blk_lt blk_grown LeO own_nil own_ne own_other own_setCell)
set_option linter.unusedVariables false
structure Got where
  h : Hd.Head
  qs : List Qn
  an : List Rr
  ns : List Rr
  ar : List Rr
  e : Int
def got0 (e : Int) : Got := ⟨Hd.head0, [], [], [], [], e⟩
/-- What is read. -/
def getV (k : Nat) (s : ByteArray) : Option Got :=
  if 4096 < s.size then some (got0 701) else if s.size < 12 then some (got0 700) else
    (listQ k s (be2 s 4).toNat ⟨12, false⟩).bind fun q => (listR k s (be2 s 6).toNat q.2).bind fun a => (listR k s (be2 s 8).toNat a.2).bind fun b => (listR k s (be2 s 10).toNat b.2).bind fun c =>
      if c.2.bad || c.2.at_ != (s.size : Int) then some (got0 700) else some ⟨Hd.getH s, q.1, a.1, b.1, c.1, 0⟩
abbrev mz : Array Value := #[.int .i64 0, .bool false, .int .i64 0, .bool false, .bool false, .bool false, .bool false, .int .i64 0, .int .i64 0, .slice none 0 0, .slice none 0 0, .slice none 0 0, .slice none 0 0]
/-- What the answer is, and where its rows lie. -/
def GetPost (s : ByteArray) (w : World) (r : Got) (e : Ending) (w' : World) : Prop :=
  ∃ vq va vn vr, e = .returned (.tuple #[.agg #[.int .i64 r.h.id, .bool r.h.qr, .int .i64 r.h.op, .bool r.h.aa, .bool r.h.tc, .bool r.h.rd, .bool r.h.ra, .int .i64 r.h.z, .int .i64 r.h.rc, vq, va, vn, vr], .int .i64 r.e]) ∧
    w'.ownsRow w.heap.size 40 3 vq r.qs.length (cellsQ r.qs) ∧ w'.ownsRow w.heap.size 53 5 va r.an.length (cellsR r.an) ∧ w'.ownsRow w.heap.size 53 5 vn r.ns.length (cellsR r.ns) ∧ w'.ownsRow w.heap.size 53 5 vr r.ar.length (cellsR r.ar) ∧
    (∀ k, va.ownBlock = some k → some k ≠ vn.ownBlock ∧ some k ≠ vr.ownBlock) ∧ (∀ k, vn.ownBlock = some k → some k ≠ va.ownBlock ∧ some k ≠ vr.ownBlock) ∧ (∀ k, vr.ownBlock = some k → some k ≠ va.ownBlock ∧ some k ≠ vn.ownBlock) ∧ Below w.heap.size w w'
theorem post0 (s : ByteArray) (w w' : World) (e : Int) (hb : Below w.heap.size w w') : GetPost s w (got0 e) (.returned (.tuple #[.agg mz, .int .i64 e])) w' :=
  ⟨_, _, _, _, rfl, own_nil _ _ _ _, own_nil _ _ _ _, own_nil _ _ _ _, own_nil _ _ _ _, fun k h => by simp [Value.ownBlock] at h, fun k h => by simp [Value.ownBlock] at h, fun k h => by simp [Value.ownBlock] at h, hb⟩
/-- Values written one behind the other into a block. -/
def putAll (w : World) (g : Nat) : Nat → List Value → World
  | _, [] => w
  | i, v :: vs => putAll (w.setCell ⟨g, i, none⟩ v) g (i + 1) vs
def setAll (cs : Array Value) : Nat → List Value → Array Value
  | _, [] => cs
  | i, v :: vs => setAll (cs.setIfInBounds i v) (i + 1) vs
theorem putAll_ne {w : World} {g k : Nat} (i : Nat) (vs : List Value) (h : k ≠ g) : (putAll w g i vs).heap[k]? = w.heap[k]? := by
  induction vs generalizing w i with
  | nil => rfl
  | cons v vs ih => exact (ih (i + 1)).trans (Below.heap_setCell w _ v k h)
theorem putAll_blk {w : World} {g : Nat} {t : TypeId} {cs : Array Value} (i : Nat) (vs : List Value) (cs' : Array Value) (h : w.heap[g]? = some (.cells cs t (0, 0))) (e : setAll cs i vs = cs' := by rfl) : (putAll w g i vs).heap[g]? = some (.cells cs' t (0, 0)) := by
  subst e
  induction vs generalizing w i cs with
  | nil => exact h
  | cons v vs ih => exact ih (i + 1) (blk_put h i v rfl)
theorem putAll_own {w : World} {g b : Nat} {e : TypeId} {size n : Nat} {v : Value} {xs : List Value} (i : Nat) (vs : List Value) (h : w.ownsRow b e size v n xs) (hne : some g ≠ v.ownBlock) : (putAll w g i vs).ownsRow b e size v n xs := by
  induction vs generalizing w i with
  | nil => exact h
  | cons u vs ih => exact ih (i + 1) (own_setCell (p := ⟨g, i, none⟩) h hne u)
theorem putAll_grown {w0 w : World} {g : Nat} {row : Option Nat} (i : Nat) (vs : List Value) (h : w0.grownBy w row) (hg : w0.heap.size ≤ g) : w0.grownBy (putAll w g i vs) row := by
  induction vs generalizing w i with
  | nil => exact h
  | cons u vs ih => exact ih (i + 1) (grown_far (p := ⟨g, i, none⟩) h hg u)
theorem own_lower {w : World} {b b' : Nat} {e : TypeId} {size n : Nat} {v : Value} {xs : List Value} (h : w.ownsRow b e size v n xs) (hb : b' ≤ b) : w.ownsRow b' e size v n xs := by
  refine ⟨h.1, ?_⟩
  rcases h.2 with h2 | ⟨k, cap, cur, rfl, hg, r⟩
  · exact .inl h2
  · exact .inr ⟨k, cap, cur, rfl, Nat.le_trans hb hg, r⟩
theorem own_lt {w : World} {b : Nat} {e : TypeId} {size n : Nat} {v : Value} {xs : List Value} (h : w.ownsRow b e size v n xs) (k : Nat) (hk : v.ownBlock = some k) : k < w.heap.size := by
  obtain ⟨cs, hb⟩ := Go.Proofs.YtjklgdpffmaamaaW.PrintWords.own_typed h k hk
  exact blk_lt hb
set_option maxHeartbeats 8000000 in
set_option maxRecDepth 100000 in
theorem getc (s : ByteArray) (w : World) (hs : s.size ≤ 9223372036854775000) {k : Nat} {r : Got} (hq : getV k s = some r) : Calls Try.prog 35 #[.string s] w (GetPost s w r) := by
  have HQ := Lib.hid hq
  clear hq
  by_cases h4 : 4096 < s.size
  · have hr : r = got0 701 := by have := HQ.out; unfold getV at this; rw [if_pos h4] at this; exact (Option.some.inj this).symm
    subst hr
    have q : decide ((4096 : Int) < (s.size : Int)) = true := by simp; omega
    have pz := blk_new w (.cells mz 27)
    go_enter Try.func35, Try.ntmps35
    go_wp2
    have e0 := (blk_cell pz 0).trans rfl
    have e1 := (blk_cell pz 1).trans rfl
    have e2 := (blk_cell pz 2).trans rfl
    have e3 := (blk_cell pz 3).trans rfl
    have e4 := (blk_cell pz 4).trans rfl
    have e5 := (blk_cell pz 5).trans rfl
    have e6 := (blk_cell pz 6).trans rfl
    have e7 := (blk_cell pz 7).trans rfl
    have e8 := (blk_cell pz 8).trans rfl
    have e9 := (blk_cell pz 9).trans rfl
    have e10 := (blk_cell pz 10).trans rfl
    have e11 := (blk_cell pz 11).trans rfl
    have e12 := (blk_cell pz 12).trans rfl
    exact bodyPost_ret (v := .tuple #[.agg mz, .int .i64 701]) (by simp [results, Try.results35, go_sem, e0, e1, e2, e3, e4, e5, e6, e7, e8, e9, e10, e11, e12]) rfl (post0 s w _ 701 ((Below.refl _ _).alloc (Nat.le_refl _) _))
  · have q : decide ((4096 : Int) < (s.size : Int)) = false := by simp; omega
    have Bp : Below w.heap.size w (w.alloc (.cells mz 27)) := (Below.refl _ _).alloc (Nat.le_refl _) _
    have pz := blk_new w (.cells mz 27)
    have sp : (w.alloc (.cells mz 27)).heap.size = w.heap.size + 1 := by simp
    have kg := Hd.got s (w.alloc (.cells mz 27)) hs
    by_cases h12 : s.size < 12
    · have hr : r = got0 700 := by have := HQ.out; unfold getV at this; rw [if_neg h4, if_pos h12] at this; exact (Option.some.inj this).symm
      subst hr
      have hE : Hd.gotE s = 600 := Hd.gotE_no (by omega)
      rw [hE] at kg
      clear HQ
      go_enter Try.func35, Try.ntmps35
      go_wp2_with fail
      refine kg.mono ?_
      rintro e w1 ⟨rfl, B1⟩
      have p1 := blk_below pz B1
      have BB := Bp.trans (B1.mono (by omega))
      clear kg pz Bp B1
      have pp : ((w1.alloc (.cells #[.int .i64 (Hd.gotH s).id, .bool (Hd.gotH s).qr, .int .i64 (Hd.gotH s).op, .bool (Hd.gotH s).aa, .bool (Hd.gotH s).tc, .bool (Hd.gotH s).rd, .bool (Hd.gotH s).ra, .int .i64 (Hd.gotH s).z, .int .i64 (Hd.gotH s).rc] 23)).alloc (.cells #[.int .i64 (Hd.gotC s 4), .int .i64 (Hd.gotC s 6), .int .i64 (Hd.gotC s 8), .int .i64 (Hd.gotC s 10)] 80)).heap[w.heap.size]? = some (.cells mz 27 (0, 0)) := Go.Proofs.YtjklgdpffmaamaaW.PrintWords.blk_alloc (Go.Proofs.YtjklgdpffmaamaaW.PrintWords.blk_alloc p1 _) _
      have x0 : ((w1.alloc (.cells #[.int .i64 (Hd.gotH s).id, .bool (Hd.gotH s).qr, .int .i64 (Hd.gotH s).op, .bool (Hd.gotH s).aa, .bool (Hd.gotH s).tc, .bool (Hd.gotH s).rd, .bool (Hd.gotH s).ra, .int .i64 (Hd.gotH s).z, .int .i64 (Hd.gotH s).rc] 23)).alloc (.cells #[.int .i64 (Hd.gotC s 4), .int .i64 (Hd.gotC s 6), .int .i64 (Hd.gotC s 8), .int .i64 (Hd.gotC s 10)] 80)).cell? ⟨w.heap.size, 0, none⟩ = some (.int .i64 0) := (blk_cell pp 0).trans rfl
      have x1 : ((w1.alloc (.cells #[.int .i64 (Hd.gotH s).id, .bool (Hd.gotH s).qr, .int .i64 (Hd.gotH s).op, .bool (Hd.gotH s).aa, .bool (Hd.gotH s).tc, .bool (Hd.gotH s).rd, .bool (Hd.gotH s).ra, .int .i64 (Hd.gotH s).z, .int .i64 (Hd.gotH s).rc] 23)).alloc (.cells #[.int .i64 (Hd.gotC s 4), .int .i64 (Hd.gotC s 6), .int .i64 (Hd.gotC s 8), .int .i64 (Hd.gotC s 10)] 80)).cell? ⟨w.heap.size, 1, none⟩ = some (.bool false) := (blk_cell pp 1).trans rfl
      have x2 : ((w1.alloc (.cells #[.int .i64 (Hd.gotH s).id, .bool (Hd.gotH s).qr, .int .i64 (Hd.gotH s).op, .bool (Hd.gotH s).aa, .bool (Hd.gotH s).tc, .bool (Hd.gotH s).rd, .bool (Hd.gotH s).ra, .int .i64 (Hd.gotH s).z, .int .i64 (Hd.gotH s).rc] 23)).alloc (.cells #[.int .i64 (Hd.gotC s 4), .int .i64 (Hd.gotC s 6), .int .i64 (Hd.gotC s 8), .int .i64 (Hd.gotC s 10)] 80)).cell? ⟨w.heap.size, 2, none⟩ = some (.int .i64 0) := (blk_cell pp 2).trans rfl
      have x3 : ((w1.alloc (.cells #[.int .i64 (Hd.gotH s).id, .bool (Hd.gotH s).qr, .int .i64 (Hd.gotH s).op, .bool (Hd.gotH s).aa, .bool (Hd.gotH s).tc, .bool (Hd.gotH s).rd, .bool (Hd.gotH s).ra, .int .i64 (Hd.gotH s).z, .int .i64 (Hd.gotH s).rc] 23)).alloc (.cells #[.int .i64 (Hd.gotC s 4), .int .i64 (Hd.gotC s 6), .int .i64 (Hd.gotC s 8), .int .i64 (Hd.gotC s 10)] 80)).cell? ⟨w.heap.size, 3, none⟩ = some (.bool false) := (blk_cell pp 3).trans rfl
      have x4 : ((w1.alloc (.cells #[.int .i64 (Hd.gotH s).id, .bool (Hd.gotH s).qr, .int .i64 (Hd.gotH s).op, .bool (Hd.gotH s).aa, .bool (Hd.gotH s).tc, .bool (Hd.gotH s).rd, .bool (Hd.gotH s).ra, .int .i64 (Hd.gotH s).z, .int .i64 (Hd.gotH s).rc] 23)).alloc (.cells #[.int .i64 (Hd.gotC s 4), .int .i64 (Hd.gotC s 6), .int .i64 (Hd.gotC s 8), .int .i64 (Hd.gotC s 10)] 80)).cell? ⟨w.heap.size, 4, none⟩ = some (.bool false) := (blk_cell pp 4).trans rfl
      have x5 : ((w1.alloc (.cells #[.int .i64 (Hd.gotH s).id, .bool (Hd.gotH s).qr, .int .i64 (Hd.gotH s).op, .bool (Hd.gotH s).aa, .bool (Hd.gotH s).tc, .bool (Hd.gotH s).rd, .bool (Hd.gotH s).ra, .int .i64 (Hd.gotH s).z, .int .i64 (Hd.gotH s).rc] 23)).alloc (.cells #[.int .i64 (Hd.gotC s 4), .int .i64 (Hd.gotC s 6), .int .i64 (Hd.gotC s 8), .int .i64 (Hd.gotC s 10)] 80)).cell? ⟨w.heap.size, 5, none⟩ = some (.bool false) := (blk_cell pp 5).trans rfl
      have x6 : ((w1.alloc (.cells #[.int .i64 (Hd.gotH s).id, .bool (Hd.gotH s).qr, .int .i64 (Hd.gotH s).op, .bool (Hd.gotH s).aa, .bool (Hd.gotH s).tc, .bool (Hd.gotH s).rd, .bool (Hd.gotH s).ra, .int .i64 (Hd.gotH s).z, .int .i64 (Hd.gotH s).rc] 23)).alloc (.cells #[.int .i64 (Hd.gotC s 4), .int .i64 (Hd.gotC s 6), .int .i64 (Hd.gotC s 8), .int .i64 (Hd.gotC s 10)] 80)).cell? ⟨w.heap.size, 6, none⟩ = some (.bool false) := (blk_cell pp 6).trans rfl
      have x7 : ((w1.alloc (.cells #[.int .i64 (Hd.gotH s).id, .bool (Hd.gotH s).qr, .int .i64 (Hd.gotH s).op, .bool (Hd.gotH s).aa, .bool (Hd.gotH s).tc, .bool (Hd.gotH s).rd, .bool (Hd.gotH s).ra, .int .i64 (Hd.gotH s).z, .int .i64 (Hd.gotH s).rc] 23)).alloc (.cells #[.int .i64 (Hd.gotC s 4), .int .i64 (Hd.gotC s 6), .int .i64 (Hd.gotC s 8), .int .i64 (Hd.gotC s 10)] 80)).cell? ⟨w.heap.size, 7, none⟩ = some (.int .i64 0) := (blk_cell pp 7).trans rfl
      have x8 : ((w1.alloc (.cells #[.int .i64 (Hd.gotH s).id, .bool (Hd.gotH s).qr, .int .i64 (Hd.gotH s).op, .bool (Hd.gotH s).aa, .bool (Hd.gotH s).tc, .bool (Hd.gotH s).rd, .bool (Hd.gotH s).ra, .int .i64 (Hd.gotH s).z, .int .i64 (Hd.gotH s).rc] 23)).alloc (.cells #[.int .i64 (Hd.gotC s 4), .int .i64 (Hd.gotC s 6), .int .i64 (Hd.gotC s 8), .int .i64 (Hd.gotC s 10)] 80)).cell? ⟨w.heap.size, 8, none⟩ = some (.int .i64 0) := (blk_cell pp 8).trans rfl
      have x9 : ((w1.alloc (.cells #[.int .i64 (Hd.gotH s).id, .bool (Hd.gotH s).qr, .int .i64 (Hd.gotH s).op, .bool (Hd.gotH s).aa, .bool (Hd.gotH s).tc, .bool (Hd.gotH s).rd, .bool (Hd.gotH s).ra, .int .i64 (Hd.gotH s).z, .int .i64 (Hd.gotH s).rc] 23)).alloc (.cells #[.int .i64 (Hd.gotC s 4), .int .i64 (Hd.gotC s 6), .int .i64 (Hd.gotC s 8), .int .i64 (Hd.gotC s 10)] 80)).cell? ⟨w.heap.size, 9, none⟩ = some (.slice none 0 0) := (blk_cell pp 9).trans rfl
      have x10 : ((w1.alloc (.cells #[.int .i64 (Hd.gotH s).id, .bool (Hd.gotH s).qr, .int .i64 (Hd.gotH s).op, .bool (Hd.gotH s).aa, .bool (Hd.gotH s).tc, .bool (Hd.gotH s).rd, .bool (Hd.gotH s).ra, .int .i64 (Hd.gotH s).z, .int .i64 (Hd.gotH s).rc] 23)).alloc (.cells #[.int .i64 (Hd.gotC s 4), .int .i64 (Hd.gotC s 6), .int .i64 (Hd.gotC s 8), .int .i64 (Hd.gotC s 10)] 80)).cell? ⟨w.heap.size, 10, none⟩ = some (.slice none 0 0) := (blk_cell pp 10).trans rfl
      have x11 : ((w1.alloc (.cells #[.int .i64 (Hd.gotH s).id, .bool (Hd.gotH s).qr, .int .i64 (Hd.gotH s).op, .bool (Hd.gotH s).aa, .bool (Hd.gotH s).tc, .bool (Hd.gotH s).rd, .bool (Hd.gotH s).ra, .int .i64 (Hd.gotH s).z, .int .i64 (Hd.gotH s).rc] 23)).alloc (.cells #[.int .i64 (Hd.gotC s 4), .int .i64 (Hd.gotC s 6), .int .i64 (Hd.gotC s 8), .int .i64 (Hd.gotC s 10)] 80)).cell? ⟨w.heap.size, 11, none⟩ = some (.slice none 0 0) := (blk_cell pp 11).trans rfl
      have x12 : ((w1.alloc (.cells #[.int .i64 (Hd.gotH s).id, .bool (Hd.gotH s).qr, .int .i64 (Hd.gotH s).op, .bool (Hd.gotH s).aa, .bool (Hd.gotH s).tc, .bool (Hd.gotH s).rd, .bool (Hd.gotH s).ra, .int .i64 (Hd.gotH s).z, .int .i64 (Hd.gotH s).rc] 23)).alloc (.cells #[.int .i64 (Hd.gotC s 4), .int .i64 (Hd.gotC s 6), .int .i64 (Hd.gotC s 8), .int .i64 (Hd.gotC s 10)] 80)).cell? ⟨w.heap.size, 12, none⟩ = some (.slice none 0 0) := (blk_cell pp 12).trans rfl
      have y0 := blk_frozen pp 0
      have y1 := blk_frozen pp 1
      have y2 := blk_frozen pp 2
      have y3 := blk_frozen pp 3
      have y4 := blk_frozen pp 4
      have y5 := blk_frozen pp 5
      have y6 := blk_frozen pp 6
      have y7 := blk_frozen pp 7
      have y8 := blk_frozen pp 8
      have y9 := blk_frozen pp 9
      have y10 := blk_frozen pp 10
      have y11 := blk_frozen pp 11
      have y12 := blk_frozen pp 12
      have pF := putAll_blk 0 [.int .i64 0, .bool false, .int .i64 0, .bool false, .bool false, .bool false, .bool false, .int .i64 0, .int .i64 0, .slice none 0 0, .slice none 0 0, .slice none 0 0, .slice none 0 0] mz pp (by simp [setAll])
      have GF := putAll_grown (row := none) 0 [.int .i64 0, .bool false, .int .i64 0, .bool false, .bool false, .bool false, .bool false, .int .i64 0, .int .i64 0, .slice none 0 0, .slice none 0 0, .slice none 0 0, .slice none 0 0] (grown_below (BB.trans (((Below.refl w1.heap.size w1).alloc (Nat.le_refl _) (.cells #[.int .i64 (Hd.gotH s).id, .bool (Hd.gotH s).qr, .int .i64 (Hd.gotH s).op, .bool (Hd.gotH s).aa, .bool (Hd.gotH s).tc, .bool (Hd.gotH s).rd, .bool (Hd.gotH s).ra, .int .i64 (Hd.gotH s).z, .int .i64 (Hd.gotH s).rc] 23)).alloc (by simp) (.cells #[.int .i64 (Hd.gotC s 4), .int .i64 (Hd.gotC s 6), .int .i64 (Hd.gotC s 8), .int .i64 (Hd.gotC s 10)] 80) |>.mono BB.size)) none) (Nat.le_refl _)
      simp only [putAll] at pF GF
      have e0 := (blk_cell pF 0).trans rfl
      have e1 := (blk_cell pF 1).trans rfl
      have e2 := (blk_cell pF 2).trans rfl
      have e3 := (blk_cell pF 3).trans rfl
      have e4 := (blk_cell pF 4).trans rfl
      have e5 := (blk_cell pF 5).trans rfl
      have e6 := (blk_cell pF 6).trans rfl
      have e7 := (blk_cell pF 7).trans rfl
      have e8 := (blk_cell pF 8).trans rfl
      have e9 := (blk_cell pF 9).trans rfl
      have e10 := (blk_cell pF 10).trans rfl
      have e11 := (blk_cell pF 11).trans rfl
      have e12 := (blk_cell pF 12).trans rfl
      go_wp2
      exact bodyPost_ret (v := .tuple #[.agg mz, .int .i64 700]) (by simp [results, Try.results35, go_sem, e0, e1, e2, e3, e4, e5, e6, e7, e8, e9, e10, e11, e12]) rfl (post0 s w _ 700 ⟨GF.os, GF.tape, GF.output, GF.size, fun k hk => GF.block k hk (by simp)⟩)
    · have hr := HQ.out
      unfold getV at hr
      rw [if_neg h4, if_neg h12] at hr
      have HR := Lib.hid hr
      have hE : Hd.gotE s = 0 := Hd.gotE_yes (by omega)
      have hC := fun k => Hd.gotC_yes (s := s) (by omega) k
      rw [hE, Hd.gotH_yes (by omega), hC, hC, hC, hC] at kg
      clear HQ hr
      go_enter Try.func35, Try.ntmps35
      go_wp2_with fail
      refine kg.mono ?_
      rintro e w1 ⟨rfl, B1⟩
      have p1 := blk_below pz B1
      have BB := Bp.trans (B1.mono (by omega))
      clear kg pz Bp B1
      go_upto_region 7 with (fail)
      obtain ⟨⟨oq, rq⟩, hlq, hr2⟩ := Option.bind_eq_some_iff.1 HR.out
      have HR2 := Lib.hid hr2
      clear hr2 HR
      have hs4 : s.size ≤ 4096 := by omega
      have bd4 := be2_bd s 4
      have B0 : Below w1.heap.size w1 (((w1.alloc (.cells #[.int .i64 (Hd.getH s).id, .bool (Hd.getH s).qr, .int .i64 (Hd.getH s).op, .bool (Hd.getH s).aa, .bool (Hd.getH s).tc, .bool (Hd.getH s).rd, .bool (Hd.getH s).ra, .int .i64 (Hd.getH s).z, .int .i64 (Hd.getH s).rc] 23)).alloc (.cells #[.int .i64 (be2 s 4), .int .i64 (be2 s 6), .int .i64 (be2 s 8), .int .i64 (be2 s 10)] 80)).alloc (.cells #[.string s, .int .i64 12, .bool false] 120)) := (((Below.refl _ _).alloc (Nat.le_refl _) _).alloc (by simp) _).alloc (by simp; omega) _
      have bh : (((w1.alloc (.cells #[.int .i64 (Hd.getH s).id, .bool (Hd.getH s).qr, .int .i64 (Hd.getH s).op, .bool (Hd.getH s).aa, .bool (Hd.getH s).tc, .bool (Hd.getH s).rd, .bool (Hd.getH s).ra, .int .i64 (Hd.getH s).z, .int .i64 (Hd.getH s).rc] 23)).alloc (.cells #[.int .i64 (be2 s 4), .int .i64 (be2 s 6), .int .i64 (be2 s 8), .int .i64 (be2 s 10)] 80)).alloc (.cells #[.string s, .int .i64 12, .bool false] 120)).heap[w1.heap.size]? = some (.cells #[.int .i64 (Hd.getH s).id, .bool (Hd.getH s).qr, .int .i64 (Hd.getH s).op, .bool (Hd.getH s).aa, .bool (Hd.getH s).tc, .bool (Hd.getH s).rd, .bool (Hd.getH s).ra, .int .i64 (Hd.getH s).z, .int .i64 (Hd.getH s).rc] 23 (0, 0)) := Go.Proofs.YtjklgdpffmaamaaW.PrintWords.blk_alloc (Go.Proofs.YtjklgdpffmaamaaW.PrintWords.blk_alloc (blk_new w1 _) _) _
      have bc : (((w1.alloc (.cells #[.int .i64 (Hd.getH s).id, .bool (Hd.getH s).qr, .int .i64 (Hd.getH s).op, .bool (Hd.getH s).aa, .bool (Hd.getH s).tc, .bool (Hd.getH s).rd, .bool (Hd.getH s).ra, .int .i64 (Hd.getH s).z, .int .i64 (Hd.getH s).rc] 23)).alloc (.cells #[.int .i64 (be2 s 4), .int .i64 (be2 s 6), .int .i64 (be2 s 8), .int .i64 (be2 s 10)] 80)).alloc (.cells #[.string s, .int .i64 12, .bool false] 120)).heap[w1.heap.size + 1]? = some (.cells #[.int .i64 (be2 s 4), .int .i64 (be2 s 6), .int .i64 (be2 s 8), .int .i64 (be2 s 10)] 80 (0, 0)) := by
        refine Go.Proofs.YtjklgdpffmaamaaW.PrintWords.blk_alloc ?_ _
        have := blk_new (w1.alloc (.cells #[.int .i64 (Hd.getH s).id, .bool (Hd.getH s).qr, .int .i64 (Hd.getH s).op, .bool (Hd.getH s).aa, .bool (Hd.getH s).tc, .bool (Hd.getH s).rd, .bool (Hd.getH s).ra, .int .i64 (Hd.getH s).z, .int .i64 (Hd.getH s).rc] 23)) (.cells #[.int .i64 (be2 s 4), .int .i64 (be2 s 6), .int .i64 (be2 s 8), .int .i64 (be2 s 10)] 80)
        simpa using this
      have bg : (((w1.alloc (.cells #[.int .i64 (Hd.getH s).id, .bool (Hd.getH s).qr, .int .i64 (Hd.getH s).op, .bool (Hd.getH s).aa, .bool (Hd.getH s).tc, .bool (Hd.getH s).rd, .bool (Hd.getH s).ra, .int .i64 (Hd.getH s).z, .int .i64 (Hd.getH s).rc] 23)).alloc (.cells #[.int .i64 (be2 s 4), .int .i64 (be2 s 6), .int .i64 (be2 s 8), .int .i64 (be2 s 10)] 80)).alloc (.cells #[.string s, .int .i64 12, .bool false] 120)).heap[w1.heap.size + 1 + 1]? = some (.cells #[.string s, .int .i64 12, .bool false] 120 (0, 0)) := by
        have := blk_new ((w1.alloc (.cells #[.int .i64 (Hd.getH s).id, .bool (Hd.getH s).qr, .int .i64 (Hd.getH s).op, .bool (Hd.getH s).aa, .bool (Hd.getH s).tc, .bool (Hd.getH s).rd, .bool (Hd.getH s).ra, .int .i64 (Hd.getH s).z, .int .i64 (Hd.getH s).rc] 23)).alloc (.cells #[.int .i64 (be2 s 4), .int .i64 (be2 s 6), .int .i64 (be2 s 8), .int .i64 (be2 s 10)] 80)) (.cells #[.string s, .int .i64 12, .bool false] 120)
        simpa using this
      have p0 := blk_below p1 B0
      have BB0 := BB.trans (B0.mono BB.size)
      have hgw : w.heap.size ≤ w1.heap.size + 1 + 1 := by have := BB.size; omega
      have hcg : w1.heap.size + 1 ≠ w1.heap.size + 1 + 1 := by omega
      have hhg : w1.heap.size ≠ w1.heap.size + 1 + 1 := by omega
      have hpg : w.heap.size ≠ w1.heap.size + 1 + 1 := by have := BB.size; omega
      clear p1 BB B0 sp
      generalize (((w1.alloc (.cells #[.int .i64 (Hd.getH s).id, .bool (Hd.getH s).qr, .int .i64 (Hd.getH s).op, .bool (Hd.getH s).aa, .bool (Hd.getH s).tc, .bool (Hd.getH s).rd, .bool (Hd.getH s).ra, .int .i64 (Hd.getH s).z, .int .i64 (Hd.getH s).rc] 23)).alloc (.cells #[.int .i64 (be2 s 4), .int .i64 (be2 s 6), .int .i64 (be2 s 8), .int .i64 (be2 s 10)] 80)).alloc (.cells #[.string s, .int .i64 12, .bool false] 120)) = W0 at *
      generalize w1.heap.size + 1 + 1 = g at *
      generalize w1.heap.size + 1 = kc at *
      generalize w1.heap.size = kh at *
      have RG : RdAt W0 g s ⟨12, false⟩ := ⟨bg⟩
      have h0 : W0.cell? ⟨kh, 0, none⟩ = some (.int .i64 (Hd.getH s).id) := (blk_cell bh 0).trans rfl
      have h1 : W0.cell? ⟨kh, 1, none⟩ = some (.bool (Hd.getH s).qr) := (blk_cell bh 1).trans rfl
      have h2 : W0.cell? ⟨kh, 2, none⟩ = some (.int .i64 (Hd.getH s).op) := (blk_cell bh 2).trans rfl
      have h3 : W0.cell? ⟨kh, 3, none⟩ = some (.bool (Hd.getH s).aa) := (blk_cell bh 3).trans rfl
      have h4 : W0.cell? ⟨kh, 4, none⟩ = some (.bool (Hd.getH s).tc) := (blk_cell bh 4).trans rfl
      have h5 : W0.cell? ⟨kh, 5, none⟩ = some (.bool (Hd.getH s).rd) := (blk_cell bh 5).trans rfl
      have h6 : W0.cell? ⟨kh, 6, none⟩ = some (.bool (Hd.getH s).ra) := (blk_cell bh 6).trans rfl
      have h7 : W0.cell? ⟨kh, 7, none⟩ = some (.int .i64 (Hd.getH s).z) := (blk_cell bh 7).trans rfl
      have h8 : W0.cell? ⟨kh, 8, none⟩ = some (.int .i64 (Hd.getH s).rc) := (blk_cell bh 8).trans rfl
      have h9 : W0.cell? ⟨kc, 0, none⟩ = some (.int .i64 (be2 s 4)) := (blk_cell bc 0).trans rfl
      have Dh := blk_below bh ((Below.refl W0.heap.size W0).alloc (Nat.le_refl _) (.cells mz 27))
      have Dc := blk_below bc ((Below.refl W0.heap.size W0).alloc (Nat.le_refl _) (.cells mz 27))
      have ha0 : (W0.alloc (.cells mz 27)).cell? ⟨kh, 0, none⟩ = some (.int .i64 (Hd.getH s).id) := (blk_cell Dh 0).trans rfl
      have ha1 : (W0.alloc (.cells mz 27)).cell? ⟨kh, 1, none⟩ = some (.bool (Hd.getH s).qr) := (blk_cell Dh 1).trans rfl
      have ha2 : (W0.alloc (.cells mz 27)).cell? ⟨kh, 2, none⟩ = some (.int .i64 (Hd.getH s).op) := (blk_cell Dh 2).trans rfl
      have ha3 : (W0.alloc (.cells mz 27)).cell? ⟨kh, 3, none⟩ = some (.bool (Hd.getH s).aa) := (blk_cell Dh 3).trans rfl
      have ha4 : (W0.alloc (.cells mz 27)).cell? ⟨kh, 4, none⟩ = some (.bool (Hd.getH s).tc) := (blk_cell Dh 4).trans rfl
      have ha5 : (W0.alloc (.cells mz 27)).cell? ⟨kh, 5, none⟩ = some (.bool (Hd.getH s).rd) := (blk_cell Dh 5).trans rfl
      have ha6 : (W0.alloc (.cells mz 27)).cell? ⟨kh, 6, none⟩ = some (.bool (Hd.getH s).ra) := (blk_cell Dh 6).trans rfl
      have ha7 : (W0.alloc (.cells mz 27)).cell? ⟨kh, 7, none⟩ = some (.int .i64 (Hd.getH s).z) := (blk_cell Dh 7).trans rfl
      have ha8 : (W0.alloc (.cells mz 27)).cell? ⟨kh, 8, none⟩ = some (.int .i64 (Hd.getH s).rc) := (blk_cell Dh 8).trans rfl
      have ha9 : (W0.alloc (.cells mz 27)).cell? ⟨kc, 0, none⟩ = some (.int .i64 (be2 s 4)) := (blk_cell Dc 0).trans rfl
      have nw0 := World.new_ne W0 ⟨kh, 0, none⟩ h0
      have nw1 := World.new_ne W0 ⟨kh, 1, none⟩ h1
      have nw2 := World.new_ne W0 ⟨kh, 2, none⟩ h2
      have nw3 := World.new_ne W0 ⟨kh, 3, none⟩ h3
      have nw4 := World.new_ne W0 ⟨kh, 4, none⟩ h4
      have nw5 := World.new_ne W0 ⟨kh, 5, none⟩ h5
      have nw6 := World.new_ne W0 ⟨kh, 6, none⟩ h6
      have nw7 := World.new_ne W0 ⟨kh, 7, none⟩ h7
      have nw8 := World.new_ne W0 ⟨kh, 8, none⟩ h8
      have nw9 := World.new_ne W0 ⟨kc, 0, none⟩ h9
      have Dd : Below W0.heap.size W0 W0.drew := (Below.refl _ _).drew
      have De : Below W0.heap.size W0 (W0.alloc (.cells mz 27)).drew := ((Below.refl _ _).alloc (Nat.le_refl _) _).drew
      have hn4 : (((be2 s 4).toNat : Nat) : Int) = be2 s 4 := by omega
      have kqd := listQc (RG.below Dd) hs4 (be2 s 4).toNat (by omega) hlq
      have kqe := listQc (RG.below De) hs4 (be2 s 4).toNat (by omega) hlq
      rw [hn4] at kqd kqe
      have bhd := blk_below bh Dd
      have bcd := blk_below bc Dd
      have bhe := blk_below bh De
      have bce := blk_below bc De
      have p0d := blk_below p0 Dd
      have p0e := blk_below p0 De
      have kke : (W0.alloc (.cells mz 27)).drew.heap[W0.heap.size]? = some (.cells mz 27 (0, 0)) := blk_new W0 _
      have hgW : g ≠ W0.heap.size := Nat.ne_of_lt (blk_lt bg)
      have FQ : ∀ (W w3 : World), W.heap[kh]? = some (.cells #[.int .i64 (Hd.getH s).id, .bool (Hd.getH s).qr, .int .i64 (Hd.getH s).op, .bool (Hd.getH s).aa, .bool (Hd.getH s).tc, .bool (Hd.getH s).rd, .bool (Hd.getH s).ra, .int .i64 (Hd.getH s).z, .int .i64 (Hd.getH s).rc] 23 (0, 0)) → W.heap[kc]? = some (.cells #[.int .i64 (be2 s 4), .int .i64 (be2 s 6), .int .i64 (be2 s 8), .int .i64 (be2 s 10)] 80 (0, 0)) → W.grownBy w3 (some g) → w3.cell? ⟨kh, 0, none⟩ = some (.int .i64 (Hd.getH s).id) ∧ w3.cell? ⟨kh, 1, none⟩ = some (.bool (Hd.getH s).qr) ∧ w3.cell? ⟨kh, 2, none⟩ = some (.int .i64 (Hd.getH s).op) ∧ w3.cell? ⟨kh, 3, none⟩ = some (.bool (Hd.getH s).aa) ∧ w3.cell? ⟨kh, 4, none⟩ = some (.bool (Hd.getH s).tc) ∧ w3.cell? ⟨kh, 5, none⟩ = some (.bool (Hd.getH s).rd) ∧ w3.cell? ⟨kh, 6, none⟩ = some (.bool (Hd.getH s).ra) ∧ w3.cell? ⟨kh, 7, none⟩ = some (.int .i64 (Hd.getH s).z) ∧ w3.cell? ⟨kh, 8, none⟩ = some (.int .i64 (Hd.getH s).rc) ∧ w3.cell? ⟨kc, 0, none⟩ = some (.int .i64 (be2 s 4)) := fun W w3 a b G => by
        have a' := blk_grown a G (by intro q; injection q with q; exact hhg q)
        have b' := blk_grown b G (by intro q; injection q with q; exact hcg q)
        exact ⟨(blk_cell a' 0).trans rfl, (blk_cell a' 1).trans rfl, (blk_cell a' 2).trans rfl, (blk_cell a' 3).trans rfl, (blk_cell a' 4).trans rfl, (blk_cell a' 5).trans rfl, (blk_cell a' 6).trans rfl, (blk_cell a' 7).trans rfl, (blk_cell a' 8).trans rfl, (blk_cell b' 0).trans rfl⟩
      have FK : ∀ (W w3 : World), W.heap[W0.heap.size]? = some (.cells mz 27 (0, 0)) → W.grownBy w3 (some g) → w3.heap[W0.heap.size]? = some (.cells mz 27 (0, 0)) ∧ w3.cell? ⟨W0.heap.size, 0, none⟩ = some (.int .i64 0) ∧ w3.cell? ⟨W0.heap.size, 1, none⟩ = some (.bool false) ∧ w3.cell? ⟨W0.heap.size, 2, none⟩ = some (.int .i64 0) ∧ w3.cell? ⟨W0.heap.size, 3, none⟩ = some (.bool false) ∧ w3.cell? ⟨W0.heap.size, 4, none⟩ = some (.bool false) ∧ w3.cell? ⟨W0.heap.size, 5, none⟩ = some (.bool false) ∧ w3.cell? ⟨W0.heap.size, 6, none⟩ = some (.bool false) ∧ w3.cell? ⟨W0.heap.size, 7, none⟩ = some (.int .i64 0) ∧ w3.cell? ⟨W0.heap.size, 8, none⟩ = some (.int .i64 0) ∧ w3.cell? ⟨W0.heap.size, 9, none⟩ = some (.slice none 0 0) ∧ w3.cell? ⟨W0.heap.size, 10, none⟩ = some (.slice none 0 0) ∧ w3.cell? ⟨W0.heap.size, 11, none⟩ = some (.slice none 0 0) ∧ w3.cell? ⟨W0.heap.size, 12, none⟩ = some (.slice none 0 0) ∧ w3.frozen? ⟨W0.heap.size, 0, none⟩ = false ∧ w3.frozen? ⟨W0.heap.size, 1, none⟩ = false ∧ w3.frozen? ⟨W0.heap.size, 2, none⟩ = false ∧ w3.frozen? ⟨W0.heap.size, 3, none⟩ = false ∧ w3.frozen? ⟨W0.heap.size, 4, none⟩ = false ∧ w3.frozen? ⟨W0.heap.size, 5, none⟩ = false ∧ w3.frozen? ⟨W0.heap.size, 6, none⟩ = false ∧ w3.frozen? ⟨W0.heap.size, 7, none⟩ = false ∧ w3.frozen? ⟨W0.heap.size, 8, none⟩ = false ∧ w3.frozen? ⟨W0.heap.size, 9, none⟩ = false ∧ w3.frozen? ⟨W0.heap.size, 10, none⟩ = false ∧ w3.frozen? ⟨W0.heap.size, 11, none⟩ = false ∧ w3.frozen? ⟨W0.heap.size, 12, none⟩ = false := fun W w3 a G => by
        have a' := blk_grown a G (by intro q; injection q with q; exact hgW q.symm)
        exact ⟨a', (blk_cell a' 0).trans rfl, (blk_cell a' 1).trans rfl, (blk_cell a' 2).trans rfl, (blk_cell a' 3).trans rfl, (blk_cell a' 4).trans rfl, (blk_cell a' 5).trans rfl, (blk_cell a' 6).trans rfl, (blk_cell a' 7).trans rfl, (blk_cell a' 8).trans rfl, (blk_cell a' 9).trans rfl, (blk_cell a' 10).trans rfl, (blk_cell a' 11).trans rfl, (blk_cell a' 12).trans rfl, blk_frozen a' 0, blk_frozen a' 1, blk_frozen a' 2, blk_frozen a' 3, blk_frozen a' 4, blk_frozen a' 5, blk_frozen a' 6, blk_frozen a' 7, blk_frozen a' 8, blk_frozen a' 9, blk_frozen a' 10, blk_frozen a' 11, blk_frozen a' 12⟩
      have F1 : ∀ (w3 : World) (vq : Value) (b : Nat), W0.heap.size ≤ b → w3.ownsRow b 40 3 vq oq.length (cellsQ oq) → RdAt w3 g s rq → w3.heap[w.heap.size]? = some (.cells mz 27 (0, 0)) → w3.heap[kc]? = some (.cells #[.int .i64 (be2 s 4), .int .i64 (be2 s 6), .int .i64 (be2 s 8), .int .i64 (be2 s 10)] 80 (0, 0)) → W0.grownBy w3 (some g) → ∃ W, W = w3.alloc (.cells #[.int .i64 (Hd.getH s).id, .bool (Hd.getH s).qr, .int .i64 (Hd.getH s).op, .bool (Hd.getH s).aa, .bool (Hd.getH s).tc, .bool (Hd.getH s).rd, .bool (Hd.getH s).ra, .int .i64 (Hd.getH s).z, .int .i64 (Hd.getH s).rc, vq, .slice none 0 0, .slice none 0 0, .slice none 0 0] 27) ∧ W.heap[w3.heap.size]? = some (.cells #[.int .i64 (Hd.getH s).id, .bool (Hd.getH s).qr, .int .i64 (Hd.getH s).op, .bool (Hd.getH s).aa, .bool (Hd.getH s).tc, .bool (Hd.getH s).rd, .bool (Hd.getH s).ra, .int .i64 (Hd.getH s).z, .int .i64 (Hd.getH s).rc, vq, .slice none 0 0, .slice none 0 0, .slice none 0 0] 27 (0, 0)) ∧ W0.heap.size ≤ w3.heap.size ∧ W.ownsRow W0.heap.size 40 3 vq oq.length (cellsQ oq) ∧ RdAt W g s rq ∧ W.heap[w.heap.size]? = some (.cells mz 27 (0, 0)) ∧ W.heap[kc]? = some (.cells #[.int .i64 (be2 s 4), .int .i64 (be2 s 6), .int .i64 (be2 s 8), .int .i64 (be2 s 10)] 80 (0, 0)) ∧ W0.grownBy W (some g) := by
        intro w3 vq b hle ho H p c G
        have Bz : Below w3.heap.size w3 (w3.alloc (.cells #[.int .i64 (Hd.getH s).id, .bool (Hd.getH s).qr, .int .i64 (Hd.getH s).op, .bool (Hd.getH s).aa, .bool (Hd.getH s).tc, .bool (Hd.getH s).rd, .bool (Hd.getH s).ra, .int .i64 (Hd.getH s).z, .int .i64 (Hd.getH s).rc, vq, .slice none 0 0, .slice none 0 0, .slice none 0 0] 27)) := (Below.refl _ _).alloc (Nat.le_refl _) _
        exact ⟨_, rfl, blk_new w3 _, G.size, Sl.own_below (own_lower ho hle) Bz, H.below Bz, blk_below p Bz, blk_below c Bz, grown_alloc' G _⟩
      have F2 : ∀ (w3 : World) (vq : Value) (b : Nat), W0.heap.size ≤ b → w3.ownsRow b 40 3 vq oq.length (cellsQ oq) → RdAt w3 g s rq → w3.heap[W0.heap.size]? = some (.cells mz 27 (0, 0)) → w3.heap[w.heap.size]? = some (.cells mz 27 (0, 0)) → w3.heap[kc]? = some (.cells #[.int .i64 (be2 s 4), .int .i64 (be2 s 6), .int .i64 (be2 s 8), .int .i64 (be2 s 10)] 80 (0, 0)) → W0.grownBy w3 (some g) → (putAll w3 W0.heap.size 0 [.int .i64 (Hd.getH s).id, .bool (Hd.getH s).qr, .int .i64 (Hd.getH s).op, .bool (Hd.getH s).aa, .bool (Hd.getH s).tc, .bool (Hd.getH s).rd, .bool (Hd.getH s).ra, .int .i64 (Hd.getH s).z, .int .i64 (Hd.getH s).rc, vq, .slice none 0 0, .slice none 0 0, .slice none 0 0]).heap[W0.heap.size]? = some (.cells #[.int .i64 (Hd.getH s).id, .bool (Hd.getH s).qr, .int .i64 (Hd.getH s).op, .bool (Hd.getH s).aa, .bool (Hd.getH s).tc, .bool (Hd.getH s).rd, .bool (Hd.getH s).ra, .int .i64 (Hd.getH s).z, .int .i64 (Hd.getH s).rc, vq, .slice none 0 0, .slice none 0 0, .slice none 0 0] 27 (0, 0)) ∧ (putAll w3 W0.heap.size 0 [.int .i64 (Hd.getH s).id, .bool (Hd.getH s).qr, .int .i64 (Hd.getH s).op, .bool (Hd.getH s).aa, .bool (Hd.getH s).tc, .bool (Hd.getH s).rd, .bool (Hd.getH s).ra, .int .i64 (Hd.getH s).z, .int .i64 (Hd.getH s).rc, vq, .slice none 0 0, .slice none 0 0, .slice none 0 0]).ownsRow W0.heap.size 40 3 vq oq.length (cellsQ oq) ∧ RdAt (putAll w3 W0.heap.size 0 [.int .i64 (Hd.getH s).id, .bool (Hd.getH s).qr, .int .i64 (Hd.getH s).op, .bool (Hd.getH s).aa, .bool (Hd.getH s).tc, .bool (Hd.getH s).rd, .bool (Hd.getH s).ra, .int .i64 (Hd.getH s).z, .int .i64 (Hd.getH s).rc, vq, .slice none 0 0, .slice none 0 0, .slice none 0 0]) g s rq ∧ (putAll w3 W0.heap.size 0 [.int .i64 (Hd.getH s).id, .bool (Hd.getH s).qr, .int .i64 (Hd.getH s).op, .bool (Hd.getH s).aa, .bool (Hd.getH s).tc, .bool (Hd.getH s).rd, .bool (Hd.getH s).ra, .int .i64 (Hd.getH s).z, .int .i64 (Hd.getH s).rc, vq, .slice none 0 0, .slice none 0 0, .slice none 0 0]).heap[w.heap.size]? = some (.cells mz 27 (0, 0)) ∧ (putAll w3 W0.heap.size 0 [.int .i64 (Hd.getH s).id, .bool (Hd.getH s).qr, .int .i64 (Hd.getH s).op, .bool (Hd.getH s).aa, .bool (Hd.getH s).tc, .bool (Hd.getH s).rd, .bool (Hd.getH s).ra, .int .i64 (Hd.getH s).z, .int .i64 (Hd.getH s).rc, vq, .slice none 0 0, .slice none 0 0, .slice none 0 0]).heap[kc]? = some (.cells #[.int .i64 (be2 s 4), .int .i64 (be2 s 6), .int .i64 (be2 s 8), .int .i64 (be2 s 10)] 80 (0, 0)) ∧ W0.grownBy (putAll w3 W0.heap.size 0 [.int .i64 (Hd.getH s).id, .bool (Hd.getH s).qr, .int .i64 (Hd.getH s).op, .bool (Hd.getH s).aa, .bool (Hd.getH s).tc, .bool (Hd.getH s).rd, .bool (Hd.getH s).ra, .int .i64 (Hd.getH s).z, .int .i64 (Hd.getH s).rc, vq, .slice none 0 0, .slice none 0 0, .slice none 0 0]) (some g) := by
        intro w3 vq b hle ho H k p c G
        have hne := own_ne ho k (by decide)
        have hpW : w.heap.size ≠ W0.heap.size := Nat.ne_of_lt (blk_lt p0)
        have hcW : kc ≠ W0.heap.size := Nat.ne_of_lt (blk_lt bc)
        exact ⟨putAll_blk 0 _ _ k (by simp [setAll]), putAll_own 0 _ (own_lower ho hle) hne, ⟨(putAll_ne 0 _ hgW).trans H.blk⟩, (putAll_ne 0 _ hpW).trans p, (putAll_ne 0 _ hcW).trans c, putAll_grown 0 _ G (Nat.le_refl _)⟩
      have P3 : ∀ (W w3 : World), W.heap[w.heap.size]? = some (.cells mz 27 (0, 0)) → W.grownBy w3 (some g) → w3.heap[w.heap.size]? = some (.cells mz 27 (0, 0)) := fun W w3 h G => blk_grown h G (by intro q; injection q with q; exact hpg q)
      have C3 : ∀ (W w3 : World), W.heap[kc]? = some (.cells #[.int .i64 (be2 s 4), .int .i64 (be2 s 6), .int .i64 (be2 s 8), .int .i64 (be2 s 10)] 80 (0, 0)) → W.grownBy w3 (some g) → w3.heap[kc]? = some (.cells #[.int .i64 (be2 s 4), .int .i64 (be2 s 6), .int .i64 (be2 s 8), .int .i64 (be2 s 10)] 80 (0, 0)) := fun W w3 h G => blk_grown h G (by intro q; injection q with q; exact hcg q)
      have GWd := grown_below Dd (some g)
      have GWe := grown_below De (some g)
      have HF1 := Lib.hid F1
      have HF2 := Lib.hid F2
      have HP3 := Lib.hid P3
      have HC3 := Lib.hid C3
      clear F1 F2 P3 C3
      go_cut [8] (fun v8 wc => ∃ km vq, v8 = .pointer (some ⟨km, 0, none⟩) ∧ wc.heap[km]? = some (.cells #[.int .i64 (Hd.getH s).id, .bool (Hd.getH s).qr, .int .i64 (Hd.getH s).op, .bool (Hd.getH s).aa, .bool (Hd.getH s).tc, .bool (Hd.getH s).rd, .bool (Hd.getH s).ra, .int .i64 (Hd.getH s).z, .int .i64 (Hd.getH s).rc, vq, .slice none 0 0, .slice none 0 0, .slice none 0 0] 27 (0, 0)) ∧ W0.heap.size ≤ km ∧ wc.ownsRow W0.heap.size 40 3 vq oq.length (cellsQ oq) ∧ RdAt wc g s rq ∧ wc.heap[w.heap.size]? = some (.cells mz 27 (0, 0)) ∧ wc.heap[kc]? = some (.cells #[.int .i64 (be2 s 4), .int .i64 (be2 s 6), .int .i64 (be2 s 8), .int .i64 (be2 s 10)] 80 (0, 0)) ∧ W0.grownBy wc (some g))
      case first =>
        go_region_held3 (fun w' => w'.cell? ⟨kh, 0, none⟩ = some (.int .i64 (Hd.getH s).id) ∧ w'.cell? ⟨kh, 1, none⟩ = some (.bool (Hd.getH s).qr) ∧ w'.cell? ⟨kh, 2, none⟩ = some (.int .i64 (Hd.getH s).op) ∧ w'.cell? ⟨kh, 3, none⟩ = some (.bool (Hd.getH s).aa) ∧ w'.cell? ⟨kh, 4, none⟩ = some (.bool (Hd.getH s).tc) ∧ w'.cell? ⟨kh, 5, none⟩ = some (.bool (Hd.getH s).rd) ∧ w'.cell? ⟨kh, 6, none⟩ = some (.bool (Hd.getH s).ra) ∧ w'.cell? ⟨kh, 7, none⟩ = some (.int .i64 (Hd.getH s).z) ∧ w'.cell? ⟨kh, 8, none⟩ = some (.int .i64 (Hd.getH s).rc) ∧ w'.cell? ⟨kc, 0, none⟩ = some (.int .i64 (be2 s 4)))
          (first | with_reducible exact ⟨h0, h1, h2, h3, h4, h5, h6, h7, h8, h9⟩ | with_reducible exact ⟨ha0, ha1, ha2, ha3, ha4, ha5, ha6, ha7, ha8, ha9⟩ | with_reducible exact ⟨i0, i1, i2, i3, i4, i5, i6, i7, i8, i9⟩ | (go_keep; done))
          (first
            | (go_at_call 65; with_reducible refine kqd.mono ?_; rintro e w3 ⟨vq, rfl, hown, H3, G3⟩; obtain ⟨A3, c3, rfl⟩ := Sl.own_slice hown; obtain ⟨i0, i1, i2, i3, i4, i5, i6, i7, i8, i9⟩ := FQ _ _ bhd bcd G3; have nv0 := World.new_ne w3 ⟨kh, 0, none⟩ i0; have nv1 := World.new_ne w3 ⟨kh, 1, none⟩ i1; have nv2 := World.new_ne w3 ⟨kh, 2, none⟩ i2; have nv3 := World.new_ne w3 ⟨kh, 3, none⟩ i3; have nv4 := World.new_ne w3 ⟨kh, 4, none⟩ i4; have nv5 := World.new_ne w3 ⟨kh, 5, none⟩ i5; have nv6 := World.new_ne w3 ⟨kh, 6, none⟩ i6; have nv7 := World.new_ne w3 ⟨kh, 7, none⟩ i7; have nv8 := World.new_ne w3 ⟨kh, 8, none⟩ i8; have nv9 := World.new_ne w3 ⟨kc, 0, none⟩ i9)
            | (go_at_call 65; with_reducible refine kqe.mono ?_; rintro e w3 ⟨vq, rfl, hown, H3, G3⟩; obtain ⟨A3, c3, rfl⟩ := Sl.own_slice hown; obtain ⟨i0, i1, i2, i3, i4, i5, i6, i7, i8, i9⟩ := FQ _ _ bhe bce G3; have nv0 := World.new_ne w3 ⟨kh, 0, none⟩ i0; have nv1 := World.new_ne w3 ⟨kh, 1, none⟩ i1; have nv2 := World.new_ne w3 ⟨kh, 2, none⟩ i2; have nv3 := World.new_ne w3 ⟨kh, 3, none⟩ i3; have nv4 := World.new_ne w3 ⟨kh, 4, none⟩ i4; have nv5 := World.new_ne w3 ⟨kh, 5, none⟩ i5; have nv6 := World.new_ne w3 ⟨kh, 6, none⟩ i6; have nv7 := World.new_ne w3 ⟨kh, 7, none⟩ i7; have nv8 := World.new_ne w3 ⟨kh, 8, none⟩ i8; have nv9 := World.new_ne w3 ⟨kc, 0, none⟩ i9; obtain ⟨k3, m0, m1, m2, m3, m4, m5, m6, m7, m8, m9, m10, m11, m12, n0, n1, n2, n3, n4, n5, n6, n7, n8, n9, n10, n11, n12⟩ := FK _ _ kke G3))
        all_goals
          go_wp2_with fail
          go_meet
          case rel =>
            first
            | (have hk3 := k3
               have hp3 := HP3.out (W0.alloc (.cells mz 27)).drew w3 p0e G3
               have hc3 := HC3.out (W0.alloc (.cells mz 27)).drew w3 bce G3
               have hg3 := GWe.trans G3
               have key := HF2.out w3 _ _ (by simp) hown H3 hk3 hp3 hc3 hg3
               simp only [putAll] at key
               obtain ⟨a, b, c, d, e, f⟩ := key
               exact ⟨W0.heap.size, _, rfl, a, Nat.le_refl _, b, c, d, e, f⟩)
            | (have hp3 := HP3.out W0.drew w3 p0d G3
               have hc3 := HC3.out W0.drew w3 bcd G3
               have hg3 := GWd.trans G3
               obtain ⟨W, hW, a, b', b, c, d, e, f⟩ := HF1.out w3 _ _ (Nat.le_refl _) hown H3 hp3 hc3 hg3
               rw [← hW]
               exact ⟨w3.heap.size, _, rfl, a, b', b, c, d, e, f⟩)
      case rest =>
      obtain ⟨km, vq, rfl, bm, hkm, ho, H3, p3, c3, G3⟩ := hcut
      clear HF1 HF2 HP3 HC3 FQ FK kqd kqe h0 h1 h2 h3 h4 h5 h6 h7 h8 h9 ha0 ha1 ha2 ha3 ha4 ha5 ha6 ha7 ha8 ha9 nw0 nw1 nw2 nw3 nw4 nw5 nw6 nw7 nw8 nw9 RG Dh Dc Dd De bhd bcd bhe bce p0d p0e kke GWd GWe
      have hmg : g ≠ km := by have := blk_lt bg; omega
      have hcm : kc ≠ km := by have := blk_lt bc; omega
      have hpm : w.heap.size ≠ km := by have := blk_lt p0; omega
      have ip0 : ∀ W, (Instr.index 125 (.agg #[.pointer (some ⟨km, 10, none⟩), .pointer (some ⟨km, 11, none⟩), .pointer (some ⟨km, 12, none⟩)]) (.int .i64 0)).run Try.prog W = .ok (.pointer (some ⟨km, 10, none⟩)) W := fun _ => by kernel_rfl
      have ip1 : ∀ W, (Instr.index 125 (.agg #[.pointer (some ⟨km, 10, none⟩), .pointer (some ⟨km, 11, none⟩), .pointer (some ⟨km, 12, none⟩)]) (.int .i64 1)).run Try.prog W = .ok (.pointer (some ⟨km, 11, none⟩)) W := fun _ => by kernel_rfl
      have ip2 : ∀ W, (Instr.index 125 (.agg #[.pointer (some ⟨km, 10, none⟩), .pointer (some ⟨km, 11, none⟩), .pointer (some ⟨km, 12, none⟩)]) (.int .i64 2)).run Try.prog W = .ok (.pointer (some ⟨km, 12, none⟩)) W := fun _ => by kernel_rfl
      obtain ⟨⟨oa, ra⟩, hla, hr3⟩ := Option.bind_eq_some_iff.1 HR2.out
      obtain ⟨⟨on, rn⟩, hln, hr4⟩ := Option.bind_eq_some_iff.1 hr3
      obtain ⟨⟨orr, rr⟩, hlr, hr5⟩ := Option.bind_eq_some_iff.1 hr4
      have HR5 := Lib.hid hr5
      clear hr3 hr4 hr5 HR2
      obtain ⟨Aq, cq, rfl⟩ := Sl.own_slice ho
      go_upto_region 9 with (fail)
      refine wp_loop_rounds 4 ?_
      have bd0 := be2_bd s 6
      have hk0 : (((be2 s 6).toNat : Nat) : Int) = be2 s 6 := by omega
      have kr0 := listRc H3 hs4 (be2 s 6).toNat (by omega) hla
      rw [hk0] at kr0
      have cx0 : wc.cell? ⟨kc, 1, none⟩ = some (.int .i64 (be2 s 6)) := (blk_cell c3 1).trans rfl
      rw [rounds_succ]
      go_wp2_with fail
      refine kr0.mono ?_
      rintro e5 wl0 ⟨vl0, rfl, hol0, HL0, GL0⟩
      obtain ⟨A0, c0x, rfl⟩ := Sl.own_slice hol0
      have bl0 := blk_grown bm GL0 (by intro q; injection q with q; exact hmg q.symm)
      have cl0 := blk_grown c3 GL0 (by intro q; injection q with q; exact hcg q)
      have pl0 := blk_grown p3 GL0 (by intro q; injection q with q; exact hpg q)
      replace ho := own_other ho GL0 (.inr (Ne.symm (own_ne ho H3.blk (by decide))))
      have lt0 := Lib.hid (own_lt hol0)
      have xm0 : wl0.cell? ⟨km, 10, none⟩ = some (.slice none 0 0) := (blk_cell bl0 10).trans rfl
      have fm0 := blk_frozen bl0 10
      have bn0 := blk_put bl0 10 (.slice A0 oa.length c0x) rfl
      have cn0 := blk_set_ne (p := ⟨km, 10, none⟩) cl0 hcm (.slice A0 oa.length c0x)
      have pn0 := blk_set_ne (p := ⟨km, 10, none⟩) pl0 hpm (.slice A0 oa.length c0x)
      have HN0 : RdAt (wl0.setCell ⟨km, 10, none⟩ (.slice A0 oa.length c0x)) g s ra := ⟨blk_set_ne (p := ⟨km, 10, none⟩) HL0.blk hmg (.slice A0 oa.length c0x)⟩
      have GN0 := grown_far (p := ⟨km, 10, none⟩) (G3.trans GL0) hkm (.slice A0 oa.length c0x)
      replace ho := own_setCell (p := ⟨km, 10, none⟩) ho (own_ne ho bl0 (by decide)) (.slice A0 oa.length c0x)
      replace hol0 := own_setCell (p := ⟨km, 10, none⟩) hol0 (own_ne hol0 bl0 (by decide)) (.slice A0 oa.length c0x)
      go_wp2_with fail
      skip
      have bd1 := be2_bd s 8
      have hk1 : (((be2 s 8).toNat : Nat) : Int) = be2 s 8 := by omega
      have kr1 := listRc HN0 hs4 (be2 s 8).toNat (by omega) hln
      rw [hk1] at kr1
      have cx1 : (wl0.setCell ⟨km, 10, none⟩ (.slice A0 oa.length c0x)).cell? ⟨kc, 2, none⟩ = some (.int .i64 (be2 s 8)) := (blk_cell cn0 2).trans rfl
      rw [rounds_succ]
      go_wp2_with fail
      refine kr1.mono ?_
      rintro e5 wl1 ⟨vl1, rfl, hol1, HL1, GL1⟩
      obtain ⟨A1, c1x, rfl⟩ := Sl.own_slice hol1
      have bl1 := blk_grown bn0 GL1 (by intro q; injection q with q; exact hmg q.symm)
      have cl1 := blk_grown cn0 GL1 (by intro q; injection q with q; exact hcg q)
      have pl1 := blk_grown pn0 GL1 (by intro q; injection q with q; exact hpg q)
      replace ho := own_other ho GL1 (.inr (Ne.symm (own_ne ho HN0.blk (by decide))))
      replace hol0 := own_other hol0 GL1 (.inr (Ne.symm (own_ne hol0 HN0.blk (by decide))))
      have lt1 := Lib.hid (own_lt hol1)
      have bs1 := Lib.hid (Sl.own_base hol1)
      have xm1 : wl1.cell? ⟨km, 11, none⟩ = some (.slice none 0 0) := (blk_cell bl1 11).trans rfl
      have fm1 := blk_frozen bl1 11
      have bn1 := blk_put bl1 11 (.slice A1 on.length c1x) rfl
      have cn1 := blk_set_ne (p := ⟨km, 11, none⟩) cl1 hcm (.slice A1 on.length c1x)
      have pn1 := blk_set_ne (p := ⟨km, 11, none⟩) pl1 hpm (.slice A1 on.length c1x)
      have HN1 : RdAt (wl1.setCell ⟨km, 11, none⟩ (.slice A1 on.length c1x)) g s rn := ⟨blk_set_ne (p := ⟨km, 11, none⟩) HL1.blk hmg (.slice A1 on.length c1x)⟩
      have GN1 := grown_far (p := ⟨km, 11, none⟩) (GN0.trans GL1) hkm (.slice A1 on.length c1x)
      replace ho := own_setCell (p := ⟨km, 11, none⟩) ho (own_ne ho bl1 (by decide)) (.slice A1 on.length c1x)
      replace hol0 := own_setCell (p := ⟨km, 11, none⟩) hol0 (own_ne hol0 bl1 (by decide)) (.slice A1 on.length c1x)
      replace hol1 := own_setCell (p := ⟨km, 11, none⟩) hol1 (own_ne hol1 bl1 (by decide)) (.slice A1 on.length c1x)
      go_wp2_with fail
      skip
      have bd2 := be2_bd s 10
      have hk2 : (((be2 s 10).toNat : Nat) : Int) = be2 s 10 := by omega
      have kr2 := listRc HN1 hs4 (be2 s 10).toNat (by omega) hlr
      rw [hk2] at kr2
      have cx2 : (wl1.setCell ⟨km, 11, none⟩ (.slice A1 on.length c1x)).cell? ⟨kc, 3, none⟩ = some (.int .i64 (be2 s 10)) := (blk_cell cn1 3).trans rfl
      rw [rounds_succ]
      go_wp2_with fail
      refine kr2.mono ?_
      rintro e5 wl2 ⟨vl2, rfl, hol2, HL2, GL2⟩
      obtain ⟨A2, c2x, rfl⟩ := Sl.own_slice hol2
      have bl2 := blk_grown bn1 GL2 (by intro q; injection q with q; exact hmg q.symm)
      have cl2 := blk_grown cn1 GL2 (by intro q; injection q with q; exact hcg q)
      have pl2 := blk_grown pn1 GL2 (by intro q; injection q with q; exact hpg q)
      replace ho := own_other ho GL2 (.inr (Ne.symm (own_ne ho HN1.blk (by decide))))
      replace hol0 := own_other hol0 GL2 (.inr (Ne.symm (own_ne hol0 HN1.blk (by decide))))
      replace hol1 := own_other hol1 GL2 (.inr (Ne.symm (own_ne hol1 HN1.blk (by decide))))
      have bs2 := Lib.hid (Sl.own_base hol2)
      have xm2 : wl2.cell? ⟨km, 12, none⟩ = some (.slice none 0 0) := (blk_cell bl2 12).trans rfl
      have fm2 := blk_frozen bl2 12
      have bn2 := blk_put bl2 12 (.slice A2 orr.length c2x) rfl
      have cn2 := blk_set_ne (p := ⟨km, 12, none⟩) cl2 hcm (.slice A2 orr.length c2x)
      have pn2 := blk_set_ne (p := ⟨km, 12, none⟩) pl2 hpm (.slice A2 orr.length c2x)
      have HN2 : RdAt (wl2.setCell ⟨km, 12, none⟩ (.slice A2 orr.length c2x)) g s rr := ⟨blk_set_ne (p := ⟨km, 12, none⟩) HL2.blk hmg (.slice A2 orr.length c2x)⟩
      have GN2 := grown_far (p := ⟨km, 12, none⟩) (GN1.trans GL2) hkm (.slice A2 orr.length c2x)
      replace ho := own_setCell (p := ⟨km, 12, none⟩) ho (own_ne ho bl2 (by decide)) (.slice A2 orr.length c2x)
      replace hol0 := own_setCell (p := ⟨km, 12, none⟩) hol0 (own_ne hol0 bl2 (by decide)) (.slice A2 orr.length c2x)
      replace hol1 := own_setCell (p := ⟨km, 12, none⟩) hol1 (own_ne hol1 bl2 (by decide)) (.slice A2 orr.length c2x)
      replace hol2 := own_setCell (p := ⟨km, 12, none⟩) hol2 (own_ne hol2 bl2 (by decide)) (.slice A2 orr.length c2x)
      go_wp2_with fail
      skip
      rw [rounds_succ]
      go_upto_region 13 with (fail)
      have BF : Below w.heap.size w (wl2.setCell ⟨km, 12, none⟩ (.slice A2 orr.length c2x)) := BB0.grown GN2 BB0.size (fun k e => by injection e with e; omega)
      generalize hWF : (wl2.setCell ⟨km, 12, none⟩ (.slice A2 orr.length c2x)) = WF at *
      clear hWF
      obtain ⟨at9, bad9⟩ := rr
      have u1 : WF.cell? ⟨g, 1, none⟩ = some (.int .i64 at9) := (blk_cell HN2.blk 1).trans rfl
      have u2 : WF.cell? ⟨g, 2, none⟩ = some (.bool bad9) := (blk_cell HN2.blk 2).trans rfl
      have hr5 := HR5.out
      dsimp only at hr5
      clear HR5
      have hr6 : (bad9 = true ∧ got0 700 = r) ∨ (bad9 = false ∧ (at9 != (s.size : Int)) = true ∧ got0 700 = r) ∨ (bad9 = false ∧ (at9 != (s.size : Int)) = false ∧ (⟨Hd.getH s, oq, oa, on, orr, 0⟩ : Got) = r) := by
        cases bad9 with
        | true => exact .inl ⟨rfl, Option.some.inj (by simpa using hr5)⟩
        | false =>
          by_cases e : at9 = (s.size : Int)
          · exact .inr (.inr ⟨rfl, by simpa using e, Option.some.inj (by simpa [e] using hr5)⟩)
          · exact .inr (.inl ⟨rfl, by simpa using e, Option.some.inj (by simpa [e] using hr5)⟩)
      have HR6 := Lib.hid hr6
      clear hr5 hr6
      have v0 := cell_regrown u1
      have v1 := cell_regrown u2
      rcases HR6.out with ⟨rfl, rfl⟩ | ⟨rfl, hat, rfl⟩ | ⟨rfl, hat, rfl⟩
      · have B1 : Below WF.heap.size WF WF := Below.refl _ _
        have pp := blk_below pn2 B1
        have bb := blk_below bn2 B1
        have BG := BF.trans (B1.mono BF.size)
        have x0 : WF.cell? ⟨w.heap.size, 0, none⟩ = some (.int .i64 0) := (blk_cell pp 0).trans rfl
        have x1 : WF.cell? ⟨w.heap.size, 1, none⟩ = some (.bool false) := (blk_cell pp 1).trans rfl
        have x2 : WF.cell? ⟨w.heap.size, 2, none⟩ = some (.int .i64 0) := (blk_cell pp 2).trans rfl
        have x3 : WF.cell? ⟨w.heap.size, 3, none⟩ = some (.bool false) := (blk_cell pp 3).trans rfl
        have x4 : WF.cell? ⟨w.heap.size, 4, none⟩ = some (.bool false) := (blk_cell pp 4).trans rfl
        have x5 : WF.cell? ⟨w.heap.size, 5, none⟩ = some (.bool false) := (blk_cell pp 5).trans rfl
        have x6 : WF.cell? ⟨w.heap.size, 6, none⟩ = some (.bool false) := (blk_cell pp 6).trans rfl
        have x7 : WF.cell? ⟨w.heap.size, 7, none⟩ = some (.int .i64 0) := (blk_cell pp 7).trans rfl
        have x8 : WF.cell? ⟨w.heap.size, 8, none⟩ = some (.int .i64 0) := (blk_cell pp 8).trans rfl
        have x9 : WF.cell? ⟨w.heap.size, 9, none⟩ = some (.slice none 0 0) := (blk_cell pp 9).trans rfl
        have x10 : WF.cell? ⟨w.heap.size, 10, none⟩ = some (.slice none 0 0) := (blk_cell pp 10).trans rfl
        have x11 : WF.cell? ⟨w.heap.size, 11, none⟩ = some (.slice none 0 0) := (blk_cell pp 11).trans rfl
        have x12 : WF.cell? ⟨w.heap.size, 12, none⟩ = some (.slice none 0 0) := (blk_cell pp 12).trans rfl
        have y0 := blk_frozen pp 0
        have y1 := blk_frozen pp 1
        have y2 := blk_frozen pp 2
        have y3 := blk_frozen pp 3
        have y4 := blk_frozen pp 4
        have y5 := blk_frozen pp 5
        have y6 := blk_frozen pp 6
        have y7 := blk_frozen pp 7
        have y8 := blk_frozen pp 8
        have y9 := blk_frozen pp 9
        have y10 := blk_frozen pp 10
        have y11 := blk_frozen pp 11
        have y12 := blk_frozen pp 12
        have pF := putAll_blk 0 [.int .i64 0, .bool false, .int .i64 0, .bool false, .bool false, .bool false, .bool false, .int .i64 0, .int .i64 0, .slice none 0 0, .slice none 0 0, .slice none 0 0, .slice none 0 0] #[.int .i64 0, .bool false, .int .i64 0, .bool false, .bool false, .bool false, .bool false, .int .i64 0, .int .i64 0, .slice none 0 0, .slice none 0 0, .slice none 0 0, .slice none 0 0] pp (by simp [setAll])
        have GF := putAll_grown (row := none) 0 [.int .i64 0, .bool false, .int .i64 0, .bool false, .bool false, .bool false, .bool false, .int .i64 0, .int .i64 0, .slice none 0 0, .slice none 0 0, .slice none 0 0, .slice none 0 0] (grown_below BG none) (Nat.le_refl _)
        simp only [putAll] at pF GF
        have e0 := (blk_cell pF 0).trans rfl
        have e1 := (blk_cell pF 1).trans rfl
        have e2 := (blk_cell pF 2).trans rfl
        have e3 := (blk_cell pF 3).trans rfl
        have e4 := (blk_cell pF 4).trans rfl
        have e5 := (blk_cell pF 5).trans rfl
        have e6 := (blk_cell pF 6).trans rfl
        have e7 := (blk_cell pF 7).trans rfl
        have e8 := (blk_cell pF 8).trans rfl
        have e9 := (blk_cell pF 9).trans rfl
        have e10 := (blk_cell pF 10).trans rfl
        have e11 := (blk_cell pF 11).trans rfl
        have e12 := (blk_cell pF 12).trans rfl
        go_wp2
        exact bodyPost_ret (v := .tuple #[.agg #[.int .i64 0, .bool false, .int .i64 0, .bool false, .bool false, .bool false, .bool false, .int .i64 0, .int .i64 0, .slice none 0 0, .slice none 0 0, .slice none 0 0, .slice none 0 0], .int .i64 700]) (by simp [results, Try.results35, go_sem, e0, e1, e2, e3, e4, e5, e6, e7, e8, e9, e10, e11, e12]) rfl (post0 s w _ 700 ⟨GF.os, GF.tape, GF.output, GF.size, fun k hk => GF.block k hk (by simp)⟩)
      · have B1 : Below WF.heap.size WF WF := Below.refl _ _
        have pp := blk_below pn2 B1
        have bb := blk_below bn2 B1
        have BG := BF.trans (B1.mono BF.size)
        have x0 : WF.cell? ⟨w.heap.size, 0, none⟩ = some (.int .i64 0) := (blk_cell pp 0).trans rfl
        have x1 : WF.cell? ⟨w.heap.size, 1, none⟩ = some (.bool false) := (blk_cell pp 1).trans rfl
        have x2 : WF.cell? ⟨w.heap.size, 2, none⟩ = some (.int .i64 0) := (blk_cell pp 2).trans rfl
        have x3 : WF.cell? ⟨w.heap.size, 3, none⟩ = some (.bool false) := (blk_cell pp 3).trans rfl
        have x4 : WF.cell? ⟨w.heap.size, 4, none⟩ = some (.bool false) := (blk_cell pp 4).trans rfl
        have x5 : WF.cell? ⟨w.heap.size, 5, none⟩ = some (.bool false) := (blk_cell pp 5).trans rfl
        have x6 : WF.cell? ⟨w.heap.size, 6, none⟩ = some (.bool false) := (blk_cell pp 6).trans rfl
        have x7 : WF.cell? ⟨w.heap.size, 7, none⟩ = some (.int .i64 0) := (blk_cell pp 7).trans rfl
        have x8 : WF.cell? ⟨w.heap.size, 8, none⟩ = some (.int .i64 0) := (blk_cell pp 8).trans rfl
        have x9 : WF.cell? ⟨w.heap.size, 9, none⟩ = some (.slice none 0 0) := (blk_cell pp 9).trans rfl
        have x10 : WF.cell? ⟨w.heap.size, 10, none⟩ = some (.slice none 0 0) := (blk_cell pp 10).trans rfl
        have x11 : WF.cell? ⟨w.heap.size, 11, none⟩ = some (.slice none 0 0) := (blk_cell pp 11).trans rfl
        have x12 : WF.cell? ⟨w.heap.size, 12, none⟩ = some (.slice none 0 0) := (blk_cell pp 12).trans rfl
        have y0 := blk_frozen pp 0
        have y1 := blk_frozen pp 1
        have y2 := blk_frozen pp 2
        have y3 := blk_frozen pp 3
        have y4 := blk_frozen pp 4
        have y5 := blk_frozen pp 5
        have y6 := blk_frozen pp 6
        have y7 := blk_frozen pp 7
        have y8 := blk_frozen pp 8
        have y9 := blk_frozen pp 9
        have y10 := blk_frozen pp 10
        have y11 := blk_frozen pp 11
        have y12 := blk_frozen pp 12
        have pF := putAll_blk 0 [.int .i64 0, .bool false, .int .i64 0, .bool false, .bool false, .bool false, .bool false, .int .i64 0, .int .i64 0, .slice none 0 0, .slice none 0 0, .slice none 0 0, .slice none 0 0] #[.int .i64 0, .bool false, .int .i64 0, .bool false, .bool false, .bool false, .bool false, .int .i64 0, .int .i64 0, .slice none 0 0, .slice none 0 0, .slice none 0 0, .slice none 0 0] pp (by simp [setAll])
        have GF := putAll_grown (row := none) 0 [.int .i64 0, .bool false, .int .i64 0, .bool false, .bool false, .bool false, .bool false, .int .i64 0, .int .i64 0, .slice none 0 0, .slice none 0 0, .slice none 0 0, .slice none 0 0] (grown_below BG none) (Nat.le_refl _)
        simp only [putAll] at pF GF
        have e0 := (blk_cell pF 0).trans rfl
        have e1 := (blk_cell pF 1).trans rfl
        have e2 := (blk_cell pF 2).trans rfl
        have e3 := (blk_cell pF 3).trans rfl
        have e4 := (blk_cell pF 4).trans rfl
        have e5 := (blk_cell pF 5).trans rfl
        have e6 := (blk_cell pF 6).trans rfl
        have e7 := (blk_cell pF 7).trans rfl
        have e8 := (blk_cell pF 8).trans rfl
        have e9 := (blk_cell pF 9).trans rfl
        have e10 := (blk_cell pF 10).trans rfl
        have e11 := (blk_cell pF 11).trans rfl
        have e12 := (blk_cell pF 12).trans rfl
        go_wp2
        exact bodyPost_ret (v := .tuple #[.agg #[.int .i64 0, .bool false, .int .i64 0, .bool false, .bool false, .bool false, .bool false, .int .i64 0, .int .i64 0, .slice none 0 0, .slice none 0 0, .slice none 0 0, .slice none 0 0], .int .i64 700]) (by simp [results, Try.results35, go_sem, e0, e1, e2, e3, e4, e5, e6, e7, e8, e9, e10, e11, e12]) rfl (post0 s w _ 700 ⟨GF.os, GF.tape, GF.output, GF.size, fun k hk => GF.block k hk (by simp)⟩)
      · have B1 : Below WF.heap.size WF WF := Below.refl _ _
        have pp := blk_below pn2 B1
        have bb := blk_below bn2 B1
        have BG := BF.trans (B1.mono BF.size)
        have x0 : WF.cell? ⟨w.heap.size, 0, none⟩ = some (.int .i64 0) := (blk_cell pp 0).trans rfl
        have x1 : WF.cell? ⟨w.heap.size, 1, none⟩ = some (.bool false) := (blk_cell pp 1).trans rfl
        have x2 : WF.cell? ⟨w.heap.size, 2, none⟩ = some (.int .i64 0) := (blk_cell pp 2).trans rfl
        have x3 : WF.cell? ⟨w.heap.size, 3, none⟩ = some (.bool false) := (blk_cell pp 3).trans rfl
        have x4 : WF.cell? ⟨w.heap.size, 4, none⟩ = some (.bool false) := (blk_cell pp 4).trans rfl
        have x5 : WF.cell? ⟨w.heap.size, 5, none⟩ = some (.bool false) := (blk_cell pp 5).trans rfl
        have x6 : WF.cell? ⟨w.heap.size, 6, none⟩ = some (.bool false) := (blk_cell pp 6).trans rfl
        have x7 : WF.cell? ⟨w.heap.size, 7, none⟩ = some (.int .i64 0) := (blk_cell pp 7).trans rfl
        have x8 : WF.cell? ⟨w.heap.size, 8, none⟩ = some (.int .i64 0) := (blk_cell pp 8).trans rfl
        have x9 : WF.cell? ⟨w.heap.size, 9, none⟩ = some (.slice none 0 0) := (blk_cell pp 9).trans rfl
        have x10 : WF.cell? ⟨w.heap.size, 10, none⟩ = some (.slice none 0 0) := (blk_cell pp 10).trans rfl
        have x11 : WF.cell? ⟨w.heap.size, 11, none⟩ = some (.slice none 0 0) := (blk_cell pp 11).trans rfl
        have x12 : WF.cell? ⟨w.heap.size, 12, none⟩ = some (.slice none 0 0) := (blk_cell pp 12).trans rfl
        have y0 := blk_frozen pp 0
        have y1 := blk_frozen pp 1
        have y2 := blk_frozen pp 2
        have y3 := blk_frozen pp 3
        have y4 := blk_frozen pp 4
        have y5 := blk_frozen pp 5
        have y6 := blk_frozen pp 6
        have y7 := blk_frozen pp 7
        have y8 := blk_frozen pp 8
        have y9 := blk_frozen pp 9
        have y10 := blk_frozen pp 10
        have y11 := blk_frozen pp 11
        have y12 := blk_frozen pp 12
        have z0 : WF.cell? ⟨km, 0, none⟩ = some (.int .i64 (Hd.getH s).id) := (blk_cell bb 0).trans rfl
        have z1 : WF.cell? ⟨km, 1, none⟩ = some (.bool (Hd.getH s).qr) := (blk_cell bb 1).trans rfl
        have z2 : WF.cell? ⟨km, 2, none⟩ = some (.int .i64 (Hd.getH s).op) := (blk_cell bb 2).trans rfl
        have z3 : WF.cell? ⟨km, 3, none⟩ = some (.bool (Hd.getH s).aa) := (blk_cell bb 3).trans rfl
        have z4 : WF.cell? ⟨km, 4, none⟩ = some (.bool (Hd.getH s).tc) := (blk_cell bb 4).trans rfl
        have z5 : WF.cell? ⟨km, 5, none⟩ = some (.bool (Hd.getH s).rd) := (blk_cell bb 5).trans rfl
        have z6 : WF.cell? ⟨km, 6, none⟩ = some (.bool (Hd.getH s).ra) := (blk_cell bb 6).trans rfl
        have z7 : WF.cell? ⟨km, 7, none⟩ = some (.int .i64 (Hd.getH s).z) := (blk_cell bb 7).trans rfl
        have z8 : WF.cell? ⟨km, 8, none⟩ = some (.int .i64 (Hd.getH s).rc) := (blk_cell bb 8).trans rfl
        have z9 : WF.cell? ⟨km, 9, none⟩ = some (.slice Aq oq.length cq) := (blk_cell bb 9).trans rfl
        have z10 : WF.cell? ⟨km, 10, none⟩ = some (.slice A0 oa.length c0x) := (blk_cell bb 10).trans rfl
        have z11 : WF.cell? ⟨km, 11, none⟩ = some (.slice A1 on.length c1x) := (blk_cell bb 11).trans rfl
        have z12 : WF.cell? ⟨km, 12, none⟩ = some (.slice A2 orr.length c2x) := (blk_cell bb 12).trans rfl
        have hle0 := BB0.size
        have hle1 := G3.size
        have hle2 := GL0.size
        have hle3 := GL1.size
        simp [World.setCell] at hle3
        go_wp2
        have pF := putAll_blk 0 [.int .i64 (Hd.getH s).id, .bool (Hd.getH s).qr, .int .i64 (Hd.getH s).op, .bool (Hd.getH s).aa, .bool (Hd.getH s).tc, .bool (Hd.getH s).rd, .bool (Hd.getH s).ra, .int .i64 (Hd.getH s).z, .int .i64 (Hd.getH s).rc, .slice Aq oq.length cq, .slice A0 oa.length c0x, .slice A1 on.length c1x, .slice A2 orr.length c2x] #[.int .i64 (Hd.getH s).id, .bool (Hd.getH s).qr, .int .i64 (Hd.getH s).op, .bool (Hd.getH s).aa, .bool (Hd.getH s).tc, .bool (Hd.getH s).rd, .bool (Hd.getH s).ra, .int .i64 (Hd.getH s).z, .int .i64 (Hd.getH s).rc, .slice Aq oq.length cq, .slice A0 oa.length c0x, .slice A1 on.length c1x, .slice A2 orr.length c2x] pp (by simp [setAll])
        have GF := putAll_grown (row := none) 0 [.int .i64 (Hd.getH s).id, .bool (Hd.getH s).qr, .int .i64 (Hd.getH s).op, .bool (Hd.getH s).aa, .bool (Hd.getH s).tc, .bool (Hd.getH s).rd, .bool (Hd.getH s).ra, .int .i64 (Hd.getH s).z, .int .i64 (Hd.getH s).rc, .slice Aq oq.length cq, .slice A0 oa.length c0x, .slice A1 on.length c1x, .slice A2 orr.length c2x] (grown_below BG none) (Nat.le_refl _)
        have o0 := putAll_own 0 [.int .i64 (Hd.getH s).id, .bool (Hd.getH s).qr, .int .i64 (Hd.getH s).op, .bool (Hd.getH s).aa, .bool (Hd.getH s).tc, .bool (Hd.getH s).rd, .bool (Hd.getH s).ra, .int .i64 (Hd.getH s).z, .int .i64 (Hd.getH s).rc, .slice Aq oq.length cq, .slice A0 oa.length c0x, .slice A1 on.length c1x, .slice A2 orr.length c2x] (Sl.own_below ho B1) (own_ne (Sl.own_below ho B1) pp (by decide))
        have o1 := putAll_own 0 [.int .i64 (Hd.getH s).id, .bool (Hd.getH s).qr, .int .i64 (Hd.getH s).op, .bool (Hd.getH s).aa, .bool (Hd.getH s).tc, .bool (Hd.getH s).rd, .bool (Hd.getH s).ra, .int .i64 (Hd.getH s).z, .int .i64 (Hd.getH s).rc, .slice Aq oq.length cq, .slice A0 oa.length c0x, .slice A1 on.length c1x, .slice A2 orr.length c2x] (Sl.own_below hol0 B1) (own_ne (Sl.own_below hol0 B1) pp (by decide))
        have o2 := putAll_own 0 [.int .i64 (Hd.getH s).id, .bool (Hd.getH s).qr, .int .i64 (Hd.getH s).op, .bool (Hd.getH s).aa, .bool (Hd.getH s).tc, .bool (Hd.getH s).rd, .bool (Hd.getH s).ra, .int .i64 (Hd.getH s).z, .int .i64 (Hd.getH s).rc, .slice Aq oq.length cq, .slice A0 oa.length c0x, .slice A1 on.length c1x, .slice A2 orr.length c2x] (Sl.own_below hol1 B1) (own_ne (Sl.own_below hol1 B1) pp (by decide))
        have o3 := putAll_own 0 [.int .i64 (Hd.getH s).id, .bool (Hd.getH s).qr, .int .i64 (Hd.getH s).op, .bool (Hd.getH s).aa, .bool (Hd.getH s).tc, .bool (Hd.getH s).rd, .bool (Hd.getH s).ra, .int .i64 (Hd.getH s).z, .int .i64 (Hd.getH s).rc, .slice Aq oq.length cq, .slice A0 oa.length c0x, .slice A1 on.length c1x, .slice A2 orr.length c2x] (Sl.own_below hol2 B1) (own_ne (Sl.own_below hol2 B1) pp (by decide))
        simp only [putAll] at pF GF o0 o1 o2 o3
        have e0 := (blk_cell pF 0).trans rfl
        have e1 := (blk_cell pF 1).trans rfl
        have e2 := (blk_cell pF 2).trans rfl
        have e3 := (blk_cell pF 3).trans rfl
        have e4 := (blk_cell pF 4).trans rfl
        have e5 := (blk_cell pF 5).trans rfl
        have e6 := (blk_cell pF 6).trans rfl
        have e7 := (blk_cell pF 7).trans rfl
        have e8 := (blk_cell pF 8).trans rfl
        have e9 := (blk_cell pF 9).trans rfl
        have e10 := (blk_cell pF 10).trans rfl
        have e11 := (blk_cell pF 11).trans rfl
        have e12 := (blk_cell pF 12).trans rfl
        refine bodyPost_ret (v := .tuple #[.agg #[.int .i64 (Hd.getH s).id, .bool (Hd.getH s).qr, .int .i64 (Hd.getH s).op, .bool (Hd.getH s).aa, .bool (Hd.getH s).tc, .bool (Hd.getH s).rd, .bool (Hd.getH s).ra, .int .i64 (Hd.getH s).z, .int .i64 (Hd.getH s).rc, .slice Aq oq.length cq, .slice A0 oa.length c0x, .slice A1 on.length c1x, .slice A2 orr.length c2x], .int .i64 0]) (by simp [results, Try.results35, go_sem, e0, e1, e2, e3, e4, e5, e6, e7, e8, e9, e10, e11, e12]) rfl ?_
        refine ⟨_, _, _, _, rfl, own_lower o0 (by omega), own_lower o1 (by omega), own_lower o2 (by simp; omega), own_lower o3 (by simp; omega), ?k1, ?k2, ?k3, ⟨GF.os, GF.tape, GF.output, GF.size, fun k hk => GF.block k hk (by simp)⟩⟩
        case k1 => exact fun k hk => ⟨fun q => by have a := lt0.out k hk; have b := bs1.out k q.symm; simp [World.setCell] at b; omega, fun q => by have a := lt0.out k hk; have b := bs2.out k q.symm; simp [World.setCell] at b; omega⟩
        case k2 => exact fun k hk => ⟨fun q => by have a := lt0.out k q.symm; have b := bs1.out k hk; simp [World.setCell] at b; omega, fun q => by have a := lt1.out k hk; have b := bs2.out k q.symm; simp [World.setCell] at b; omega⟩
        case k3 => exact fun k hk => ⟨fun q => by have a := lt0.out k q.symm; have b := bs2.out k hk; simp [World.setCell] at b; omega, fun q => by have a := lt1.out k q.symm; have b := bs2.out k hk; simp [World.setCell] at b; omega⟩
end Go.Proofs.Ytjklgdpffmaamaa.Wm

namespace Go.Proofs.Ytjklgdpffmaamaa.Wm
open Go.RowKit Go.PlainAid Go.Proofs.Ytjklgdpffmaamaa.Base Go.Proofs.Ytjklgdpffmaamaa.Oct Go.Proofs.Ytjklgdpffmaamaa.Nm Go.Proofs.Ytjklgdpffmaamaa.Wr Go.Proofs.Ytjklgdpffmaamaa.PCm Go.Proofs.Ytjklgdpffmaamaa.CompS Go.Proofs.Ytjklgdpffmaamaa.Pu
open Go.Proofs.YtjklgdpffmaamaaW.PrintWords (Ev bytesOf bytesOf_length LeO)
set_option linter.unusedVariables false
/-! ### A name -/
theorem l_full {s : ByteArray} {i : Int} {out : List Int} {bg bh : Int} (h : 255 ≤ out.length) : Ev (fun k => comp_Name.l0 k s i out bg bh) err := by
  by_cases hi : i < (s.size : Int)
  · refine Ev.step (fun k => by rw [comp_Name.l0]) (Ev.pos hi ?_)
    rw [decide_eq_false (show ¬ (out.length : Int) < 255 by omega)]
    exact Ev.step (fun k => by rw [comp_Name.j1]) (Ev.neg (by simp) (Ev.now _))
  · exact l_end (by omega)
theorem l_short {s : ByteArray} {i : Int} {out : List Int} {bg bh b : Int} (hs : s.size ≤ 1000000) (h0 : 0 ≤ i) (h : i < (s.size : Int)) (ho : out.length < 255) (hb : Go.Proofs.YtjklgdpffmaamaaW.PrintWords.bt s i = b) (hz : b ≠ 0) (h63 : b ≤ 63) (hf : (s.size : Int) - i ≤ b) :
    Ev (fun k => comp_Name.l0 k s i out bg bh) err := by
  refine l_go h0 h ho hb hz (fun _ => ?_) (fun h => by omega)
  rw [Pu.w64 (x := (s.size : Int) - i) (by omega) (by omega), decide_eq_false (show ¬ b < (s.size : Int) - i by omega)]
  refine Ev.step (fun k => by rw [comp_Name.j2]) (Ev.neg (by simp) (Ev.neg (by omega) ?_))
  exact Ev.step (fun k => by rw [comp_Name.j3]) (Ev.neg (by simp) (Ev.now _))
theorem l_jump {s : ByteArray} {i : Int} {out : List Int} {bg bh b c tg : Int} {r : ByteArray × Int × Int} (hs : s.size ≤ 1000000) (h0 : 0 ≤ i) (h : i + 1 < (s.size : Int)) (ho : out.length < 255) (hb : Go.Proofs.YtjklgdpffmaamaaW.PrintWords.bt s i = b) (h192 : 192 ≤ b) (hc : Go.Proofs.YtjklgdpffmaamaaW.PrintWords.bt s (i + 1) = c) (htg : tg = (b - 192) * 256 + c) (hto : tg < bg)
    (k : Ev (fun k => comp_Name.l0 k s tg out tg (if bh < 0 then i + 2 else bh)) r) : Ev (fun k => comp_Name.l0 k s i out bg bh) r := by
  have r1 := Go.Proofs.YtjklgdpffmaamaaW.PrintWords.bt_range s i
  have r2 := Go.Proofs.YtjklgdpffmaamaaW.PrintWords.bt_range s (i + 1)
  rw [hb] at r1
  rw [hc] at r2
  have e := to_eq h192 r1.2 r2.1 r2.2
  refine l_go h0 (by omega) ho hb (by omega) (fun h => by omega) (fun _ => ?_)
  refine Ev.step (fun k => by rw [comp_Name.j2]) (Ev.neg (by simp) (Ev.pos (by omega) ?_))
  rw [Pu.w64 (x := i + 1) (by omega) (by omega), decide_eq_true (show i + 1 < (s.size : Int) by omega)]
  refine Ev.step (fun k => by rw [comp_Name.j3]) (Ev.pos rfl ?_)
  rw [Pu.w64 (x := i + 1) (by omega) (by omega), hc, e, ← htg]
  refine Ev.pos (by omega) (Ev.pos (by omega) (Ev.neg (by omega) ?_))
  by_cases hbh : bh < 0
  · refine Ev.pos hbh ?_
    rw [if_pos hbh] at k
    rw [Pu.w64 (x := i + 2) (by omega) (by omega)]
    exact k
  · refine Ev.neg hbh ?_
    rw [if_neg hbh] at k
    exact k
theorem meas {bg tg n l : Nat} (h : 350 * bg + 350 ≤ n + 1 + l) (h2 : tg + 1 ≤ bg) : 350 * tg + 350 ≤ n + l := by omega
theorem l_total {S : ByteArray} (hS : S.size ≤ 1000000) : ∀ (n bg i : Nat) (out : List Int) (bh : Int), 350 * bg + 350 ≤ n + out.length → out.length ≤ 330 → Ev (fun k => comp_Name.l0 k S (i : Int) out (bg : Int) bh) err ∨ ∃ r nx, Lies S bg r i nx ∧ out.length + r.size ≤ 255 := by
  intro n
  induction n with
  | zero => intro bg i out bh h h2; omega
  | succ n ih =>
    intro bg i out bh h h2
    by_cases ho : 255 ≤ out.length
    · exact .inl (l_full ho)
    by_cases hi : S.size ≤ i
    · exact .inl (l_end (by omega))
    have hb := bt_is S i
    have r0 := bt_nonneg S i
    have r1 := bt_le S i
    obtain ⟨b, eb⟩ : ∃ b : Nat, bt S i = (b : Int) := ⟨(bt S i).toNat, by omega⟩
    rw [eb] at hb r0 r1
    by_cases hz : b = 0
    · exact .inr ⟨root, i + 1, .fin bg i (by omega) (by rw [eb, hz]; rfl), by have : root.size = 1 := rfl; omega⟩
    by_cases h63 : b ≤ 63
    · by_cases hf : i + 1 + b ≤ S.size
      · have z : (S.extract i (i + 1 + b)).size = 1 + b := by rw [ByteArray.size_extract]; omega
        have e : ((i : Int) + 1 + (b : Int)) = ((i + 1 + b : Nat) : Int) := by omega
        rcases ih bg (i + 1 + b) (out ++ bytesOf (S.extract i (i + 1 + b))) bh (by rw [List.length_append, bytesOf_length, z]; omega) (by rw [List.length_append, bytesOf_length, z]; omega) with k | ⟨r, nx, k, hk⟩
        · refine .inl (l_lab (b := (b : Int)) hS (by omega) (by omega) hb (by omega) (by omega) (by omega) ?_)
          rw [e]
          exact k
        · rw [List.length_append, bytesOf_length, z] at hk
          refine .inr ⟨_, nx, .lab bg i b r nx eb (by omega) h63 hf k, ?_⟩
          rw [ByteArray.size_append, z]; omega
      · exact .inl (l_short hS (by omega) (by omega) (by omega) hb (by omega) (by omega) (by omega))
    · by_cases h192 : b < 192 ∨ S.size ≤ i + 1
      · exact .inl (l_bad hS (by omega) (by omega) (by omega) hb (by omega) (by omega))
      · have hc := bt_is S (i + 1)
        have s0 := bt_nonneg S (i + 1)
        have s1 := bt_le S (i + 1)
        obtain ⟨c, ec⟩ : ∃ c : Nat, bt S (i + 1) = (c : Int) := ⟨(bt S (i + 1)).toNat, by omega⟩
        rw [ec] at hc s0 s1
        have e1 : ((i + 1 : Nat) : Int) = (i : Int) + 1 := by omega
        rw [e1] at hc
        obtain ⟨tg, htg⟩ : ∃ tg : Nat, tg = (b - 192) * 256 + c := ⟨_, rfl⟩
        have htg2 : (tg : Int) = ((b : Int) - 192) * 256 + (c : Int) := by omega
        by_cases hto : bg ≤ tg
        · exact .inl (l_ptr hS (by omega) (by omega) (by omega) hb (by omega) hc (by omega))
        · rcases ih tg tg out (if bh < 0 then (i : Int) + 2 else bh) (meas h (by omega)) h2 with k | ⟨r, nx, k, hk⟩
          · exact .inl (l_jump hS (by omega) (by omega) (by omega) hb (by omega) hc htg2 (by omega) k)
          · exact .inr ⟨r, i + 2, .ptr bg i b c tg r nx eb ec (by omega) htg (by omega) (by omega) k, hk⟩
theorem lies_may {S : ByteArray} {bg : Nat} {r : ByteArray} {i nx : Nat} (h : Lies S bg r i nx) (hr : r.size ≤ 255) : nameB r = true := by
  induction h with
  | fin bg i h h0 => decide +kernel
  | lab bg i k r nx hb h0 h1 h _ ih =>
    have z : (S.extract i (i + 1 + k)).size = k + 1 := by rw [ByteArray.size_extract]; omega
    rw [ByteArray.size_append, z] at hr
    refine (label_ahead _ _ k h0 h1 z ?_ (ih (by omega)) (by omega)).1
    rw [bt_data, ext_list, List.getD_eq_getElem?_getD, List.getElem?_drop, List.getElem?_take_of_lt (by omega), Nat.add_zero, ← List.getD_eq_getElem?_getD, ← bt_data]
    exact hb
  | ptr _ _ _ _ _ _ _ _ _ _ _ _ _ _ ih => exact ih hr
theorem lies_next {S : ByteArray} {bg : Nat} {r : ByteArray} {i nx : Nat} (h : Lies S bg r i nx) : i < nx ∧ nx ≤ S.size := by
  induction h with
  | fin bg i h h0 => omega
  | lab bg i k r nx hb h0 h1 h _ ih => omega
  | ptr bg i b c tg r nx hb hc h0 ht hlt h _ _ => omega
/-- A name at a place: none, or one that is read there whatever stands behind. -/
theorem name_cases {S : ByteArray} (hS : S.size ≤ 1000000) (i : Nat) : Ev (fun k => comp_Name.f k S (i : Int)) err ∨ ∃ r nx, nameB r = true ∧ i < nx ∧ nx ≤ S.size ∧ ∀ U : ByteArray, (S ++ U).size ≤ 1000000 → Ev (fun k => comp_Name.f k (S ++ U) (i : Int)) (r, (nx : Int), 0) := by
  rcases l_total hS (350 * i + 350) i i [] (-1) (by simp) (by simp) with k | ⟨r, nx, k, hk⟩
  · exact .inl (f_at k)
  · have hk : r.size ≤ 255 := by simpa using hk
    exact .inr ⟨r, nx, lies_may k hk, (lies_next k).1, (lies_next k).2, fun U hU => (k.more U).name hU hk⟩
/-! ### Names, data -/
def NamesAt (S : ByteArray) (i : Nat) (many : Int) : Prop := Ev (fun k => comp_names.f k S (i : Int) many) err ∨ ∃ r nx, r.size ≤ 510 ∧ i < nx ∧ nx ≤ S.size ∧ ∀ U : ByteArray, (S ++ U).size ≤ 1000000 → Ev (fun k => comp_names.f k (S ++ U) (i : Int) many) (r, ((nx : Nat) : Int), 0)
theorem names_cases1 {S : ByteArray} (hS : S.size ≤ 1000000) (i : Nat) : NamesAt S i 1 := by
  rcases name_cases hS i with h | ⟨r, nx, hr, h1, h2, h⟩
  · refine .inl ?_
    show Ev (fun k => comp_names.l0 k S (i : Int) (⟨#[]⟩ : ByteArray) 1 0) _
    exact Ev.step (fun k => by rw [comp_names.l0]) (Ev.pos (by decide) (Ev.bind h (Ev.neg (by show ¬ ((500 : Int) = 0); decide) (Ev.now _))))
  · have := name_size hr
    exact .inr ⟨r, nx, by omega, h1, h2, fun U hU => names_1 (h U hU) this⟩
theorem names_cases2 {S : ByteArray} (hS : S.size ≤ 1000000) (i : Nat) : NamesAt S i 2 := by
  rcases name_cases hS i with h | ⟨r, nx, hr, h1, h2, h⟩
  · refine .inl ?_
    show Ev (fun k => comp_names.l0 k S (i : Int) (⟨#[]⟩ : ByteArray) 2 0) _
    exact Ev.step (fun k => by rw [comp_names.l0]) (Ev.pos (by decide) (Ev.bind h (Ev.neg (by show ¬ ((500 : Int) = 0); decide) (Ev.now _))))
  · have hz := name_size hr
    rcases name_cases hS nx with k | ⟨r2, nx2, hr2, k1, k2, k⟩
    · refine .inl ?_
      have h := h ⟨#[]⟩ (by rw [show S ++ (⟨#[]⟩ : ByteArray) = S from ByteArray.append_empty]; exact hS)
      rw [show S ++ (⟨#[]⟩ : ByteArray) = S from ByteArray.append_empty] at h
      show Ev (fun k => comp_names.l0 k S (i : Int) (⟨#[]⟩ : ByteArray) 2 0) _
      refine Ev.step (fun k => by rw [comp_names.l0]) (Ev.pos (by decide) (Ev.bind h ?_))
      refine Ev.pos rfl (Ev.pos (by show 0 + r.size ≤ 9223372036854775807; omega) ?_)
      exact Ev.step (fun k => by rw [comp_names.l0]) (Ev.pos (by rw [Pu.w64 (by decide) (by decide)]; decide) (Ev.bind k (Ev.neg (by show ¬ ((500 : Int) = 0); decide) (Ev.now _))))
    · have hz2 := name_size hr2
      exact .inr ⟨r ++ r2, nx2, by rw [ByteArray.size_append]; omega, by omega, k2, fun U hU => names_2 (h U hU) (k U hU) hz hz2⟩
abbrev no : ByteArray × Int := ((⟨#[]⟩ : ByteArray), 500)
/-- Data at a place: none, or some that is read whatever stands behind. -/
def DataAt (S : ByteArray) (i z : Nat) (t : Int) : Prop :=
  Ev (fun k => comp_Data.f k S (i : Int) (z : Int) t) no ∨ ∃ d, Rd.mayD t d = true ∧ i + z ≤ S.size ∧ ∀ U : ByteArray, (S ++ U).size ≤ 1000000 → Ev (fun k => comp_Data.f k (S ++ U) (i : Int) (z : Int) t) (d, 0)
theorem data_out {s : ByteArray} {i z t : Int} (hs : s.size ≤ 1000000) (h0 : 0 ≤ i) (h1 : 0 ≤ z) (h2 : (s.size : Int) < i + z) : Ev (fun k => comp_Data.f k s i z t) no := by
  refine Ev.neg (by omega) (Ev.neg (by omega) ?_)
  by_cases h : i > (s.size : Int)
  · exact Ev.pos h (Ev.step (fun k => by rw [comp_Data.j0]) (Ev.pos rfl (Ev.now _)))
  · refine Ev.neg h ?_
    rw [Pu.w64 (x := (s.size : Int) - i) (by omega) (by omega), decide_eq_true (show z > (s.size : Int) - i by omega)]
    exact Ev.step (fun k => by rw [comp_Data.j0]) (Ev.pos rfl (Ev.now _))
theorem data_plain_no {s : ByteArray} {i z : Nat} {t : Int} (hs : s.size ≤ 1000000) (h2 : i + z ≤ s.size) (hsh : Ev (fun k => comp_shape.f k t) (0, 0, 0)) (hm : Rd.mayD t (s.extract i (i + z)) = false) :
    Ev (fun k => comp_Data.f k s (i : Int) (z : Int) t) no := by
  refine data_in hs (by omega) (by omega) (by omega) ?_
  refine Ev.step (fun k => by rw [comp_Data.j0]) (Ev.neg (by decide) ?_)
  rw [Pu.w64 (x := (i : Int) + (z : Int)) (by omega) (by omega)]
  refine Ev.pos (by omega) (Ev.pos (by omega) (Ev.pos (by omega) (Ev.bind hsh (Ev.neg (by decide) (Ev.call (may_eq _ _ ?_) ?_)))))
  · rw [ByteArray.size_extract]; omega
  rw [show ((i : Int) + (z : Int)).toNat = i + z by omega, Int.toNat_natCast, hm]
  exact Ev.neg (by decide) (Ev.now _)
theorem data_names_no {s ns : ByteArray} {i z a more : Nat} {q e many t : Int} (hs : s.size ≤ 1000000) (hn : ns.size ≤ 600) (h2 : i + z ≤ s.size) (ha : a ≤ 100) (hmo : more ≤ 100) (hsh : Ev (fun k => comp_shape.f k t) ((a : Int), many, (more : Int))) (hmn : 0 < many)
    (hq : Ev (fun k => comp_names.f k s ((i + a : Nat) : Int) many) (ns, q, e)) (hne : e = 0 → ∃ q' : Nat, q = (q' : Int) ∧ q' ≤ s.size ∧ (q' + more = i + z → a + more ≤ z → Rd.mayD t (s.extract i (i + a) ++ ns ++ s.extract q' (i + z)) = false)) :
    Ev (fun k => comp_Data.f k s (i : Int) (z : Int) t) no := by
  refine data_in hs (by omega) (by omega) (by omega) ?_
  refine Ev.step (fun k => by rw [comp_Data.j0]) (Ev.neg (by decide) ?_)
  rw [Pu.w64 (x := (i : Int) + (z : Int)) (by omega) (by omega)]
  refine Ev.pos (by omega) (Ev.pos (by omega) (Ev.pos (by omega) (Ev.bind hsh (Ev.pos (by show many > 0; omega) ?_))))
  dsimp only
  rw [Pu.w64 (x := (a : Int) + (more : Int)) (by omega) (by omega), Pu.w64 (x := (i : Int) + (a : Int)) (by omega) (by omega), show (i : Int) + (a : Int) = ((i + a : Nat) : Int) by omega]
  by_cases ham : a + more ≤ z
  · refine Ev.neg (by omega) (Ev.bind hq ?_)
    dsimp only
    by_cases he : e = 0
    · obtain ⟨q', rfl, hql, hm⟩ := hne he
      refine Ev.pos he ?_
      rw [Pu.w64 (x := (i : Int) + (z : Int) - (more : Int)) (by omega) (by omega)]
      by_cases hqz : q' + more = i + z
      · rw [show ((q' : Int) != (i : Int) + (z : Int) - (more : Int)) = false by simp; omega]
        refine Ev.step (fun k => by rw [comp_Data.j1]) (Ev.neg (by decide) ?_)
        rw [Pu.w64 (x := (i : Int) + (a : Int)) (by omega) (by omega), show (i : Int) + (a : Int) = ((i + a : Nat) : Int) by omega, show (i : Int) + (z : Int) = ((i + z : Nat) : Int) by omega]
        simp only [Int.toNat_natCast]
        refine Ev.pos (by omega) (Ev.pos (by omega) (Ev.pos (by omega) (Ev.pos ?_ (Ev.pos (by omega) (Ev.pos (by omega) (Ev.pos (by omega) (Ev.pos ?_ (Ev.call (may_eq _ _ ?_) ?_))))))))
        · rw [ByteArray.size_extract]; omega
        · rw [ByteArray.size_append, ByteArray.size_extract, ByteArray.size_extract]; omega
        · rw [ByteArray.size_append, ByteArray.size_append, ByteArray.size_extract, ByteArray.size_extract]; omega
        rw [hm hqz ham]
        exact Ev.neg (by decide) (Ev.now _)
      · rw [show ((q' : Int) != (i : Int) + (z : Int) - (more : Int)) = true by simp; omega]
        exact Ev.step (fun k => by rw [comp_Data.j1]) (Ev.pos rfl (Ev.now _))
    · refine Ev.neg he ?_
      exact Ev.step (fun k => by rw [comp_Data.j1]) (Ev.pos rfl (Ev.now _))
  · exact Ev.pos (by omega) (Ev.now _)
theorem app_nil (s : ByteArray) : s ++ (⟨#[]⟩ : ByteArray) = s := ByteArray.append_empty
theorem data_some {S : ByteArray} (hS : S.size ≤ 1000000) (i z a more : Nat) (many t : Int) (h2 : i + z ≤ S.size) (ha : a ≤ 100) (hmo : more ≤ 100) (hsh : Ev (fun k => comp_shape.f k t) ((a : Int), many, (more : Int))) (hmn : 0 < many)
    (hn : NamesAt S (i + a) many) : DataAt S i z t := by
  rcases hn with h | ⟨r, nx, hr, h3, h4, h⟩
  · exact .inl (data_names_no hS (by decide) h2 ha hmo hsh hmn h (fun e => absurd e (by decide)))
  · by_cases hq : nx + more = i + z ∧ a + more ≤ z ∧ Rd.mayD t (S.extract i (i + a) ++ r ++ S.extract nx (i + z)) = true
    · refine .inr ⟨_, hq.2.2, h2, fun U hU => ?_⟩
      have zz : (S ++ U).size = S.size + U.size := ByteArray.size_append
      have H := data_names (s := S ++ U) (i := i) (z := z) (a := a) (more := more) (q := nx) hU (by omega) (by omega) hsh hmn hq.2.1 (h U hU) hq.1
      rw [ext_left _ _ _ _ (by omega), ext_left _ _ _ _ (by omega)] at H
      exact H hq.2.2
    · have h0 := h ⟨#[]⟩ (by rw [app_nil]; exact hS)
      rw [app_nil] at h0
      refine .inl (data_names_no hS (by omega) h2 ha hmo hsh hmn h0 (fun _ => ⟨nx, rfl, h4, fun k1 k2 => ?_⟩))
      cases hm : Rd.mayD t (S.extract i (i + a) ++ r ++ S.extract nx (i + z)) with
      | true => exact absurd ⟨k1, k2, hm⟩ hq
      | false => rfl
theorem data_cases {S : ByteArray} (hS : S.size ≤ 1000000) (i z : Nat) (t : Int) : DataAt S i z t := by
  by_cases h2 : i + z ≤ S.size
  · by_cases k1 : t = 2 ∨ t = 5 ∨ t = 12
    · exact data_some hS i z 0 0 1 t h2 (by decide) (by decide) (shape_1 k1) (by decide) (names_cases1 hS _)
    · by_cases k2 : t = 15
      · subst k2; exact data_some hS i z 2 0 1 15 h2 (by decide) (by decide) shape_15 (by decide) (names_cases1 hS _)
      · by_cases k3 : t = 6
        · subst k3; exact data_some hS i z 0 20 2 6 h2 (by decide) (by decide) shape_6 (by decide) (names_cases2 hS _)
        · have hsh := shape_0 (fun e => k1 (.inl e)) (fun e => k1 (.inr (.inl e))) (fun e => k1 (.inr (.inr e))) k2 k3
          cases hm : Rd.mayD t (S.extract i (i + z)) with
          | false => exact .inl (data_plain_no hS h2 hsh hm)
          | true =>
            refine .inr ⟨_, hm, h2, fun U hU => ?_⟩
            have zz : (S ++ U).size = S.size + U.size := ByteArray.size_append
            have H := data_plain (s := S ++ U) (i := i) (z := z) hU (by omega) hsh
            rw [ext_left _ _ _ _ (by omega)] at H
            exact H hm
  · exact .inl (data_out hS (by omega) (by omega) (by omega))
/-! ### A question, a record -/
theorem num_bad {r : Rs} {x : Int × Int × Int} (h : r.bad = true ∨ x.2.2 ≠ 0) : numV r x = (0, ⟨r.at_, true⟩) := by
  unfold numV
  rw [if_pos]
  rcases h with h | h
  · rw [h]; rfl
  · simp [h]
theorem num16_no {s : ByteArray} {i : Nat} (h : ¬ i + 2 ≤ s.size) (b : Bool) : numV ⟨(i : Int), b⟩ (u16V s (i : Int)) = (0, ⟨(i : Int), true⟩) := by
  refine num_bad (.inr ?_)
  unfold u16V
  rw [if_neg (show ¬ (0 ≤ (i : Int) ∧ (i : Int) + 2 ≤ (s.size : Int)) by omega)]
  decide
theorem num32_no {s : ByteArray} {i : Nat} (h : ¬ i + 4 ≤ s.size) (b : Bool) : numV ⟨(i : Int), b⟩ (u32V s (i : Int)) = (0, ⟨(i : Int), true⟩) := by
  refine num_bad (.inr ?_)
  unfold u32V
  rw [if_neg (show ¬ (0 ≤ (i : Int) ∧ (i : Int) + 4 ≤ (s.size : Int)) by omega)]
  decide
/-- A question at a place: a bad one, or one that is read whatever stands behind. -/
theorem quest_cases {S : ByteArray} (hS : S.size ≤ 1000000) (i : Nat) : (∃ (q : Qn) (j : Nat), Ev (fun k => questV k S ⟨(i : Int), false⟩) (q, ⟨(j : Int), true⟩)) ∨
    ∃ (q : Qn) (nx : Nat), qMay q = true ∧ nx ≤ S.size ∧ ∀ U : ByteArray, (S ++ U).size ≤ 1000000 → Ev (fun k => questV k (S ++ U) ⟨(i : Int), false⟩) (q, ⟨(nx : Int), false⟩) := by
  rcases name_cases hS i with h | ⟨r, nx, hr, h1, h2, h⟩
  · refine .inl ⟨zQ, i, ?_⟩
    unfold questV
    exact Ev.bind h (Ev.pos (by simp) (Ev.now _))
  · have h0 := h ⟨#[]⟩ (by rw [app_nil]; exact hS)
    rw [app_nil] at h0
    by_cases c4 : nx + 4 ≤ S.size
    · by_cases ht : be2 S nx = 0
      · refine .inl ⟨⟨r, be2 S nx, be2 S (nx + 2)⟩, nx + 4, ?_⟩
        have := quest_ev h0 c4
        rw [show (be2 S nx == 0) = true by simpa using ht] at this
        exact this
      · have b1 := be2_bd S nx
        have b2 := be2_bd S (nx + 2)
        refine .inr ⟨⟨r, be2 S nx, be2 S (nx + 2)⟩, nx + 4, ?_, c4, fun U hU => ?_⟩
        · unfold qMay
          simp only [Bool.and_eq_true, inB_iff]
          exact ⟨⟨hr, by omega, by omega⟩, by omega, by omega⟩
        · have zz : (S ++ U).size = S.size + U.size := ByteArray.size_append
          have := quest_ev (h U hU) (by omega)
          rw [Hd.be2_left _ _ _ (by omega), Hd.be2_left _ _ _ (by omega), show (be2 S nx == 0) = false by simpa using ht] at this
          exact this
    · refine .inl ?_
      show ∃ (q : Qn) (j : Nat), Ev (fun k => questV k S ⟨(i : Int), false⟩) (q, ⟨(j : Int), true⟩)
      by_cases c2 : nx + 2 ≤ S.size
      · refine ⟨⟨r, be2 S nx, 0⟩, nx + 2, ?_⟩
        unfold questV
        refine Ev.bind h0 (Ev.neg (by simp) (Ev.some _ fun _ => ?_))
        dsimp only
        rw [num16_ok c2]
        dsimp only
        rw [num16_no (i := nx + 2) (by omega)]
        rfl
      · refine ⟨⟨r, 0, 0⟩, nx, ?_⟩
        unfold questV
        refine Ev.bind h0 (Ev.neg (by simp) (Ev.some _ fun _ => ?_))
        dsimp only
        rw [num16_no c2]
        dsimp only
        rw [num_bad (.inl rfl)]
        rfl
/-- A record at a place. -/
theorem rec_cases {S : ByteArray} (hS : S.size ≤ 16000) (i : Nat) : (∃ (q : Rr) (j : Nat), Ev (fun k => recV k S ⟨(i : Int), false⟩) (q, ⟨(j : Int), true⟩)) ∨
    ∃ (q : Rr) (nx : Nat), rMay q = true ∧ nx ≤ S.size ∧ ∀ U : ByteArray, (S ++ U).size ≤ 16000 → Ev (fun k => recV k (S ++ U) ⟨(i : Int), false⟩) (q, ⟨(nx : Int), false⟩) := by
  have hS' : S.size ≤ 1000000 := by omega
  have bad : ∀ (q : Qn) (j : Nat), Ev (fun k => questV k S ⟨(i : Int), false⟩) (q, ⟨(j : Int), true⟩) → ∃ (q : Rr) (j : Nat), Ev (fun k => recV k S ⟨(i : Int), false⟩) (q, ⟨(j : Int), true⟩) := by
    intro q j h
    refine ⟨zR, j, ?_⟩
    have e1 : recN1 S (q, ⟨(j : Int), true⟩) = (0, ⟨(j : Int), true⟩) := num_bad (.inl rfl)
    have e2 : recN2 S (q, ⟨(j : Int), true⟩) = (0, ⟨(j : Int), true⟩) := by
      unfold recN2
      rw [e1]
      exact num_bad (.inl rfl)
    unfold recV
    refine Ev.bind h ?_
    simp only [e1, e2]
    rcases data_cases hS' j 0 q.type with k | ⟨d, _, _, k⟩
    · exact Ev.bind k (Ev.pos (by simp) (Ev.now _))
    · have k0 := k ⟨#[]⟩ (by rw [app_nil]; exact hS')
      rw [app_nil] at k0
      exact Ev.bind k0 (Ev.pos (by simp) (Ev.now _))
  rcases name_cases hS' i with h | ⟨r, nx, hr, h1, h2, h⟩
  · refine .inl (bad zQ i ?_)
    unfold questV
    exact Ev.bind h (Ev.pos (by simp) (Ev.now _))
  · have h0 := h ⟨#[]⟩ (by rw [app_nil]; exact hS')
    rw [app_nil] at h0
    by_cases c4 : nx + 4 ≤ S.size
    · have hq := quest_ev h0 c4
      by_cases ht : be2 S nx = 0
      · rw [show (be2 S nx == 0) = true by simpa using ht] at hq
        exact .inl (bad _ _ hq)
      · rw [show (be2 S nx == 0) = false by simpa using ht] at hq
        by_cases c8 : nx + 4 + 4 ≤ S.size
        · have e1 : recN1 S (⟨r, be2 S nx, be2 S (nx + 2)⟩, ⟨((nx + 4 : Nat) : Int), false⟩) = (be4 S (nx + 4), ⟨((nx + 4 + 4 : Nat) : Int), false⟩) := num32_ok c8
          by_cases c10 : nx + 4 + 4 + 2 ≤ S.size
          · have b8 := be2_bd S (nx + 8)
            obtain ⟨z, hz⟩ : ∃ z : Nat, be2 S (nx + 8) = (z : Int) := ⟨(be2 S (nx + 8)).toNat, by omega⟩
            have e2 : recN2 S (⟨r, be2 S nx, be2 S (nx + 2)⟩, ⟨((nx + 4 : Nat) : Int), false⟩) = ((z : Int), ⟨((nx + 10 : Nat) : Int), false⟩) := by
              unfold recN2
              rw [e1]
              dsimp only
              rw [num16_ok c10, hz]
            rcases data_cases hS' (nx + 10) z (be2 S nx) with k | ⟨d, hd, hzd, k⟩
            · refine .inl ⟨zR, nx + 10, ?_⟩
              unfold recV
              refine Ev.bind hq ?_
              simp only [e1, e2]
              exact Ev.bind k (Ev.pos (by simp) (Ev.now _))
            · have b1 := be2_bd S nx
              have b2 := be2_bd S (nx + 2)
              have b4 := be4_bd S (nx + 4)
              refine .inr ⟨⟨r, be2 S nx, be2 S (nx + 2), be4 S (nx + 4), d⟩, nx + 10 + z, ?_, hzd, fun U hU => ?_⟩
              · unfold rMay
                simp only [Bool.and_eq_true, inB_iff]
                exact ⟨⟨⟨⟨hr, by omega, by omega⟩, by omega, by omega⟩, by omega, by omega⟩, hd⟩
              · have zz : (S ++ U).size = S.size + U.size := ByteArray.size_append
                have l1 : be2 (S ++ U) nx = be2 S nx := Hd.be2_left _ _ _ (by omega)
                have l2 : be2 (S ++ U) (nx + 2) = be2 S (nx + 2) := Hd.be2_left _ _ _ (by omega)
                have l3 : be2 (S ++ U) (nx + 8) = be2 S (nx + 8) := Hd.be2_left _ _ _ (by omega)
                have l4 : be4 (S ++ U) (nx + 4) = be4 S (nx + 4) := be4_left _ _ _ (by omega)
                have := rec_ev (S := S ++ U) (h U (by omega)) (by rw [l1]; exact ht) hU (by rw [l3]; exact hz) (by omega) (by rw [l1]; exact k U (by omega))
                rw [l1, l2, l4] at this
                exact this
          · have e2 : recN2 S (⟨r, be2 S nx, be2 S (nx + 2)⟩, ⟨((nx + 4 : Nat) : Int), false⟩) = (0, ⟨((nx + 4 + 4 : Nat) : Int), true⟩) := by
              unfold recN2
              rw [e1]
              exact num16_no c10 false
            refine .inl ⟨zR, nx + 4 + 4, ?_⟩
            unfold recV
            refine Ev.bind hq ?_
            simp only [e1, e2]
            rcases data_cases hS' (nx + 4 + 4) 0 (be2 S nx) with k | ⟨d, _, _, k⟩
            · exact Ev.bind k (Ev.pos (by simp) (Ev.now _))
            · have k0 := k ⟨#[]⟩ (by rw [app_nil]; exact hS')
              rw [app_nil] at k0
              exact Ev.bind k0 (Ev.pos (by simp) (Ev.now _))
        · have e1 : recN1 S (⟨r, be2 S nx, be2 S (nx + 2)⟩, ⟨((nx + 4 : Nat) : Int), false⟩) = (0, ⟨((nx + 4 : Nat) : Int), true⟩) := num32_no c8 false
          have e2 : recN2 S (⟨r, be2 S nx, be2 S (nx + 2)⟩, ⟨((nx + 4 : Nat) : Int), false⟩) = (0, ⟨((nx + 4 : Nat) : Int), true⟩) := by
            unfold recN2
            rw [e1]
            exact num_bad (.inl rfl)
          refine .inl ⟨zR, nx + 4, ?_⟩
          unfold recV
          refine Ev.bind hq ?_
          simp only [e1, e2]
          rcases data_cases hS' (nx + 4) 0 (be2 S nx) with k | ⟨d, _, _, k⟩
          · exact Ev.bind k (Ev.pos (by simp) (Ev.now _))
          · have k0 := k ⟨#[]⟩ (by rw [app_nil]; exact hS')
            rw [app_nil] at k0
            exact Ev.bind k0 (Ev.pos (by simp) (Ev.now _))
    · rcases quest_cases hS' i with ⟨q, j, k⟩ | ⟨q, nx', hm, hl, k⟩
      · exact .inl (bad q j k)
      · exfalso
        have k0 := k ⟨#[]⟩ (by rw [app_nil]; exact hS')
        rw [app_nil] at k0
        have kb : ∃ (x : Qn) (j : Nat), Ev (fun k => questV k S ⟨(i : Int), false⟩) (x, ⟨(j : Int), true⟩) := by
          by_cases c2 : nx + 2 ≤ S.size
          · refine ⟨⟨r, be2 S nx, 0⟩, nx + 2, ?_⟩
            unfold questV
            refine Ev.bind h0 (Ev.neg (by simp) (Ev.some _ fun _ => ?_))
            dsimp only
            rw [num16_ok c2]
            dsimp only
            rw [num16_no (i := nx + 2) (by omega)]
            rfl
          · refine ⟨⟨r, 0, 0⟩, nx, ?_⟩
            unfold questV
            refine Ev.bind h0 (Ev.neg (by simp) (Ev.some _ fun _ => ?_))
            dsimp only
            rw [num16_no c2]
            dsimp only
            rw [num_bad (.inl rfl)]
            rfl
        obtain ⟨x, j, kb⟩ := kb
        have e := Ev.uniq k0 kb
        injection e with _ e
        injection e with _ e
        exact absurd e (by decide)
/-! ### Lists -/
theorem loopQ_bad {k : Nat} {S : ByteArray} (n : Nat) {r : Rs} (acc : List Qn) (h : r.bad = true) : loopQ k S n r acc = some (acc, r) := by
  cases n with
  | zero => rfl
  | succ n => unfold loopQ; rw [if_pos h]
theorem loopR_bad {k : Nat} {S : ByteArray} (n : Nat) {r : Rs} (acc : List Rr) (h : r.bad = true) : loopR k S n r acc = some (acc, r) := by
  cases n with
  | zero => rfl
  | succ n => unfold loopR; rw [if_pos h]
theorem loopQ_cases {S : ByteArray} (hS : S.size ≤ 16000) : ∀ (n i : Nat) (acc : List Qn), i ≤ S.size → (∃ (o : List Qn) (j : Nat), Ev (fun k => loopQ k S n ⟨(i : Int), false⟩ acc) (o, ⟨(j : Int), true⟩)) ∨
    ∃ (o : List Qn) (nx : Nat), o.length = n ∧ (∀ q ∈ o, qMay q = true) ∧ nx ≤ S.size ∧ ∀ U : ByteArray, (S ++ U).size ≤ 16000 → Ev (fun k => loopQ k (S ++ U) n ⟨(i : Int), false⟩ acc) (acc ++ o, ⟨(nx : Int), false⟩) := by
  intro n
  induction n with
  | zero => intro i acc hi; exact .inr ⟨[], i, rfl, by simp, hi, fun U hU => by rw [List.append_nil]; exact Ev.now _⟩
  | succ n ih =>
    intro i acc hi
    rcases quest_cases (S := S) (by omega) i with ⟨q, j, h⟩ | ⟨q, nx, hm, hl, h⟩
    · refine .inl ⟨acc ++ [q], j, ?_⟩
      show Ev (fun k => if (false : Bool) = true then _ else _) _
      exact Ev.neg (by decide) (Ev.bind h (Ev.some _ fun k => loopQ_bad n _ rfl))
    · rcases ih nx (acc ++ [q]) hl with ⟨o, j, k⟩ | ⟨o, nx2, ho, hm2, hl2, k⟩
      · refine .inl ⟨o, j, ?_⟩
        have h0 := h ⟨#[]⟩ (by rw [app_nil]; omega)
        rw [app_nil] at h0
        show Ev (fun k => if (false : Bool) = true then _ else _) _
        exact Ev.neg (by decide) (Ev.bind h0 k)
      · refine .inr ⟨q :: o, nx2, by simp [ho], ?_, hl2, fun U hU => ?_⟩
        · intro x hx
          rcases List.mem_cons.1 hx with rfl | hx
          · exact hm
          · exact hm2 x hx
        · have := k U hU
          rw [List.append_assoc, List.singleton_append] at this
          show Ev (fun k => if (false : Bool) = true then _ else _) _
          exact Ev.neg (by decide) (Ev.bind (h U (by omega)) this)
theorem loopR_cases {S : ByteArray} (hS : S.size ≤ 16000) : ∀ (n i : Nat) (acc : List Rr), i ≤ S.size → (∃ (o : List Rr) (j : Nat), Ev (fun k => loopR k S n ⟨(i : Int), false⟩ acc) (o, ⟨(j : Int), true⟩)) ∨
    ∃ (o : List Rr) (nx : Nat), o.length = n ∧ (∀ q ∈ o, rMay q = true) ∧ nx ≤ S.size ∧ ∀ U : ByteArray, (S ++ U).size ≤ 16000 → Ev (fun k => loopR k (S ++ U) n ⟨(i : Int), false⟩ acc) (acc ++ o, ⟨(nx : Int), false⟩) := by
  intro n
  induction n with
  | zero => intro i acc hi; exact .inr ⟨[], i, rfl, by simp, hi, fun U hU => by rw [List.append_nil]; exact Ev.now _⟩
  | succ n ih =>
    intro i acc hi
    rcases rec_cases (S := S) hS i with ⟨q, j, h⟩ | ⟨q, nx, hm, hl, h⟩
    · refine .inl ⟨acc ++ [q], j, ?_⟩
      show Ev (fun k => if (false : Bool) = true then _ else _) _
      exact Ev.neg (by decide) (Ev.bind h (Ev.some _ fun k => loopR_bad n _ rfl))
    · rcases ih nx (acc ++ [q]) hl with ⟨o, j, k⟩ | ⟨o, nx2, ho, hm2, hl2, k⟩
      · refine .inl ⟨o, j, ?_⟩
        have h0 := h ⟨#[]⟩ (by rw [app_nil]; omega)
        rw [app_nil] at h0
        show Ev (fun k => if (false : Bool) = true then _ else _) _
        exact Ev.neg (by decide) (Ev.bind h0 k)
      · refine .inr ⟨q :: o, nx2, by simp [ho], ?_, hl2, fun U hU => ?_⟩
        · intro x hx
          rcases List.mem_cons.1 hx with rfl | hx
          · exact hm
          · exact hm2 x hx
        · have := k U hU
          rw [List.append_assoc, List.singleton_append] at this
          show Ev (fun k => if (false : Bool) = true then _ else _) _
          exact Ev.neg (by decide) (Ev.bind (h U hU) this)
/-- So many questions from a place on. -/
theorem listQ_cases {S : ByteArray} (hS : S.size ≤ 16000) (n i : Nat) (hi : i ≤ S.size) : (∃ (o : List Qn) (j : Nat), Ev (fun k => listQ k S n ⟨(i : Int), false⟩) (o, ⟨(j : Int), true⟩)) ∨
    ∃ (o : List Qn) (nx : Nat), o.length = n ∧ n ≤ 64 ∧ (∀ q ∈ o, qMay q = true) ∧ nx ≤ S.size ∧ ∀ U : ByteArray, (S ++ U).size ≤ 16000 → Ev (fun k => listQ k (S ++ U) n ⟨(i : Int), false⟩) (o, ⟨(nx : Int), false⟩) := by
  unfold listQ
  by_cases hn : 64 < n
  · rw [show (false || decide (64 < n)) = true by simp; omega]
    exact .inl ⟨[], i, Ev.some _ fun k => loopQ_bad n _ rfl⟩
  · rw [show (false || decide (64 < n)) = false by simp; omega]
    rcases loopQ_cases hS n i [] hi with h | ⟨o, nx, ho, hm, hl, h⟩
    · exact .inl h
    · exact .inr ⟨o, nx, ho, by omega, hm, hl, h⟩
theorem listR_cases {S : ByteArray} (hS : S.size ≤ 16000) (n i : Nat) (hi : i ≤ S.size) : (∃ (o : List Rr) (j : Nat), Ev (fun k => listR k S n ⟨(i : Int), false⟩) (o, ⟨(j : Int), true⟩)) ∨
    ∃ (o : List Rr) (nx : Nat), o.length = n ∧ n ≤ 64 ∧ (∀ q ∈ o, rMay q = true) ∧ nx ≤ S.size ∧ ∀ U : ByteArray, (S ++ U).size ≤ 16000 → Ev (fun k => listR k (S ++ U) n ⟨(i : Int), false⟩) (o, ⟨(nx : Int), false⟩) := by
  unfold listR
  by_cases hn : 64 < n
  · rw [show (false || decide (64 < n)) = true by simp; omega]
    exact .inl ⟨[], i, Ev.some _ fun k => loopR_bad n _ rfl⟩
  · rw [show (false || decide (64 < n)) = false by simp; omega]
    rcases loopR_cases hS n i [] hi with h | ⟨o, nx, ho, hm, hl, h⟩
    · exact .inl h
    · exact .inr ⟨o, nx, ho, by omega, hm, hl, h⟩
theorem listR_badstart {k : Nat} {S : ByteArray} (n : Nat) (j : Int) : listR k S n ⟨j, true⟩ = some ([], ⟨j, true⟩) := by
  unfold listR
  exact loopR_bad n [] rfl
end Go.Proofs.Ytjklgdpffmaamaa.Wm

namespace Go.Proofs.Ytjklgdpffmaamaa.Wm
open Go.RowKit Go.PlainAid Go.Proofs.Ytjklgdpffmaamaa.Base
open Go.Proofs.YtjklgdpffmaamaaW.PrintWords (ReadsRow add_field)
set_option linter.unusedVariables false
theorem qcells_of {α : Type} (f : α → Qn) {R : α → List Value → Prop} {w : World} {A : Option Addr} {l : List α} (h : ReadsRow R 3 w A l.length l) (hR : ∀ x cs, R x cs → cs = [.string (f x).name, .int .i64 (f x).type, .int .i64 (f x).cls]) : QCells w A (l.map f) := by
  rcases Nat.eq_zero_or_pos l.length with h0 | h0
  · exact .inl (by rw [List.length_map]; exact h0)
  · obtain ⟨ad, e, hc⟩ := h.2.2 h0
    refine .inr ⟨ad, e, fun j hj => ?_⟩
    rw [List.length_map] at hj
    obtain ⟨c, _, hr, hcell⟩ := hc j _ (List.getElem?_eq_getElem hj)
    obtain rfl := hR _ _ hr
    have eg : (l.map f).getD j zQ = f l[j] := by rw [List.getD_eq_getElem?_getD, List.getElem?_map, List.getElem?_eq_getElem hj]; rfl
    rw [eg]
    exact ⟨hcell 0 _ rfl, by rw [← add_field _ _ 1 (by omega)]; exact hcell 1 _ rfl, by rw [← add_field _ _ 2 (by omega)]; exact hcell 2 _ rfl⟩
theorem rcells_of {α : Type} (f : α → Rr) {R : α → List Value → Prop} {w : World} {A : Option Addr} {l : List α} (h : ReadsRow R 5 w A l.length l) (hR : ∀ x cs, R x cs → cs = [.string (f x).name, .int .i64 (f x).type, .int .i64 (f x).cls, .int .i64 (f x).ttl, .string (f x).data]) : RCells w A (l.map f) := by
  rcases Nat.eq_zero_or_pos l.length with h0 | h0
  · exact .inl (by rw [List.length_map]; exact h0)
  · obtain ⟨ad, e, hc⟩ := h.2.2 h0
    refine .inr ⟨ad, e, fun j hj => ?_⟩
    rw [List.length_map] at hj
    obtain ⟨c, _, hr, hcell⟩ := hc j _ (List.getElem?_eq_getElem hj)
    obtain rfl := hR _ _ hr
    have eg : (l.map f).getD j zR = f l[j] := by rw [List.getD_eq_getElem?_getD, List.getElem?_map, List.getElem?_eq_getElem hj]; rfl
    rw [eg]
    exact ⟨hcell 0 _ rfl, by rw [← add_field _ _ 1 (by omega)]; exact hcell 1 _ rfl, by rw [← add_field _ _ 2 (by omega)]; exact hcell 2 _ rfl, by rw [← add_field _ _ 3 (by omega)]; exact hcell 3 _ rfl, by rw [← add_field _ _ 4 (by omega)]; exact hcell 4 _ rfl⟩
def smallB (rs : List Rr) : Bool := rs.all fun r => decide (r.data.size ≤ 9223372036854775000)
theorem small_of {rs : List Rr} (h : smallB rs = true) : small rs := by
  intro r hr
  have := List.all_eq_true.1 h r hr
  simpa using this
/-- A message without its places. -/
def msgOf (h : Hd.Head) (qs : List Qn) (an ns ar : List Rr) : MsgV := ⟨h, none, 0, qs, none, 0, an, none, 0, ns, none, 0, ar⟩
def wirePutF (h : Hd.Head) (qs : List Qn) (an ns ar : List Rr) : Option (ByteArray × Int) :=
  if smallB an && smallB ns && smallB ar then some (putS (msgOf h qs an ns ar), putE (msgOf h qs an ns ar)) else none
theorem putF {h : Hd.Head} {qs : List Qn} {an ns ar : List Rr} {r : ByteArray × Int} (hf : wirePutF h qs an ns ar = some r) {w : World} {Aq Aa An Ar : Option Addr} {cq ca cn cr : Nat}
    (hq : QCells w Aq qs) (ha : RCells w Aa an) (hn : RCells w An ns) (hr : RCells w Ar ar) (lq : qs.length ≤ cq) (la : an.length ≤ ca) (ln : ns.length ≤ cn) (lr : ar.length ≤ cr) :
    Calls Try.prog 34 #[.agg #[.int .i64 h.id, .bool h.qr, .int .i64 h.op, .bool h.aa, .bool h.tc, .bool h.rd, .bool h.ra, .int .i64 h.z, .int .i64 h.rc, .slice Aq qs.length cq, .slice Aa an.length ca, .slice An ns.length cn, .slice Ar ar.length cr]] w fun e w' => e = .returned (.tuple #[.string r.1, .int .i64 r.2]) ∧ Below w.heap.size w w' := by
  unfold wirePutF at hf
  by_cases hs : (smallB an && smallB ns && smallB ar) = true
  · rw [if_pos hs] at hf
    obtain rfl := Option.some.inj hf
    simp only [Bool.and_eq_true] at hs
    exact putc ⟨h, Aq, cq, qs, Aa, ca, an, An, cn, ns, Ar, cr, ar⟩ w ⟨hq, ha, hn, hr, lq, la, ln, lr, small_of hs.1.1, small_of hs.1.2, small_of hs.2⟩
  · rw [if_neg hs] at hf; cases hf
end Go.Proofs.Ytjklgdpffmaamaa.Wm

namespace Go.Proofs.Ytjklgdpffmaamaa.Wm
open Go.RowKit Go.PlainAid Go.Proofs.Ytjklgdpffmaamaa.Base
open Go.Proofs.YtjklgdpffmaamaaW.PrintWords (LeO Kd Reps OwnRow)
set_option linter.unusedVariables false
theorem questV_mono (k : Nat) (s : ByteArray) (r : Rs) : LeO (questV k s r) (questV (k + 1) s r) := by
  unfold questV
  exact LeO.bind (PCm.comp_Name.mono _ _ _) (fun _ => LeO.refl _)
theorem recV_mono (k : Nat) (s : ByteArray) (r : Rs) : LeO (recV k s r) (recV (k + 1) s r) := by
  unfold recV
  exact LeO.bind (questV_mono _ _ _) (fun _ => LeO.bind (PCm.comp_Data.mono _ _ _ _ _) (fun _ => LeO.refl _))
theorem loopQ_mono (k : Nat) (s : ByteArray) : ∀ (n : Nat) (r : Rs) (acc : List Qn), LeO (loopQ k s n r acc) (loopQ (k + 1) s n r acc)
  | 0, _, _ => LeO.refl _
  | n + 1, r, acc => LeO.ite (LeO.refl _) (LeO.bind (questV_mono _ _ _) (fun x => loopQ_mono k s n x.2 _))
theorem loopR_mono (k : Nat) (s : ByteArray) : ∀ (n : Nat) (r : Rs) (acc : List Rr), LeO (loopR k s n r acc) (loopR (k + 1) s n r acc)
  | 0, _, _ => LeO.refl _
  | n + 1, r, acc => LeO.ite (LeO.refl _) (LeO.bind (recV_mono _ _ _) (fun x => loopR_mono k s n x.2 _))
theorem listQ_mono (k : Nat) (s : ByteArray) (n : Nat) (r : Rs) : LeO (listQ k s n r) (listQ (k + 1) s n r) := loopQ_mono _ _ _ _ _
theorem listR_mono (k : Nat) (s : ByteArray) (n : Nat) (r : Rs) : LeO (listR k s n r) (listR (k + 1) s n r) := loopR_mono _ _ _ _ _
theorem getV_mono (k : Nat) (s : ByteArray) : LeO (getV k s) (getV (k + 1) s) := by
  unfold getV
  exact LeO.ite (LeO.refl _) (LeO.ite (LeO.refl _) (LeO.bind (listQ_mono _ _ _ _) (fun _ => LeO.bind (listR_mono _ _ _ _) (fun _ => LeO.bind (listR_mono _ _ _ _) (fun _ => LeO.bind (listR_mono _ _ _ _) (fun _ => LeO.refl _))))))
def getF (k : Nat) (s : ByteArray) : Option Got := if s.size ≤ 9223372036854775000 then getV k s else none
theorem getF_mono (k : Nat) (s : ByteArray) : LeO (getF k s) (getF (k + 1) s) := LeO.ite (getV_mono k s) (LeO.refl _)
theorem getFc {k : Nat} {s : ByteArray} {r : Got} (h : getF k s = some r) (w : World) : Calls Try.prog 35 #[.string s] w (GetPost s w r) := by
  unfold getF at h
  by_cases hs : s.size ≤ 9223372036854775000
  · rw [if_pos hs] at h; exact getc s w hs h
  · rw [if_neg hs] at h; cases h
theorem reps_cons {α : Type} {R : α → List Value → Prop} {size : Nat} {ps : List α} {cs c : List Value} {p : α} (hp : R p c) (hc : c.length = size) (h : Reps R size ps cs) : Reps R size (p :: ps) (c ++ cs) := by
  refine ⟨by rw [List.length_append, h.1, hc, List.length_cons, Nat.add_mul, Nat.one_mul, Nat.add_comm], fun j q hq => ?_⟩
  cases j with
  | zero =>
    obtain rfl : p = q := by simpa using hq
    rw [Nat.zero_mul, List.drop_zero, ← hc, List.take_left']
    · exact hp
    · rfl
  | succ j =>
    have := h.2 j q (by simpa using hq)
    have e : (c ++ cs).drop ((j + 1) * size) = cs.drop (j * size) := by
      rw [Nat.add_mul, Nat.one_mul, Nat.add_comm, ← List.drop_drop, ← hc, List.drop_left']
      rfl
    rw [e]
    exact this
theorem qkd {α : Type} (d : Kd α) (e : Nat) (g : Qn → α) (hM : ∀ w base ok q, d.M w base ok (g q) (cellQ q).toList) (hsz : d.sz = 3) {w : World} {b : Nat} {ok : Nat → Prop} {v : Value} {qs : List Qn} (h : w.ownsRow b e 3 v qs.length (cellsQ qs)) (hok : ∀ k, v.ownBlock = some k → ok k) : Kd.R d e w b ok v (qs.map g) := by
  refine ⟨hok, cellsQ qs, by rw [hsz, List.length_map]; exact h, ?_⟩
  rw [hsz]
  clear h
  induction qs with
  | nil => exact Reps.none _ _
  | cons q qs ih => exact reps_cons (hM _ _ _ q) rfl ih
theorem rkd {α : Type} (d : Kd α) (e : Nat) (g : Rr → α) (hM : ∀ w base ok q, d.M w base ok (g q) (cellR q).toList) (hsz : d.sz = 5) {w : World} {b : Nat} {ok : Nat → Prop} {v : Value} {qs : List Rr} (h : w.ownsRow b e 5 v qs.length (cellsR qs)) (hok : ∀ k, v.ownBlock = some k → ok k) : Kd.R d e w b ok v (qs.map g) := by
  refine ⟨hok, cellsR qs, by rw [hsz, List.length_map]; exact h, ?_⟩
  rw [hsz]
  clear h
  induction qs with
  | nil => exact Reps.none _ _
  | cons q qs ih => exact reps_cons (hM _ _ _ q) rfl ih
end Go.Proofs.Ytjklgdpffmaamaa.Wm

namespace Go.Proofs.Ytjklgdpffmaamaa.Wm
open Go.RowKit Go.PlainAid Go.Proofs.Ytjklgdpffmaamaa.Base Go.Proofs.Ytjklgdpffmaamaa.Oct Go.Proofs.Ytjklgdpffmaamaa.Nm Go.Proofs.Ytjklgdpffmaamaa.Wr Go.Proofs.Ytjklgdpffmaamaa.PCm Go.Proofs.Ytjklgdpffmaamaa.CompS Go.Proofs.Ytjklgdpffmaamaa.Pu
open Go.Proofs.YtjklgdpffmaamaaW.PrintWords (Ev bytesOf bytesOf_length LeO)
set_option linter.unusedVariables false
/-- What was read: an error, or a message that may be written. -/
def Tells (s : ByteArray) (g : Got) : Prop :=
  (g = got0 (if 4096 < s.size then 701 else 700)) ∨
  (g.e = 0 ∧ s.size ≤ 4096 ∧ putOk (msgOf g.h g.qs g.an g.ns g.ar) = true ∧ ∀ U : ByteArray, 0 < U.size → (s ++ U).size ≤ 4096 → Ev (fun k => getV k (s ++ U)) (got0 700))
theorem getV_cases (s : ByteArray) : ∃ g : Got, Ev (fun k => getV k s) g ∧ Tells s g := by
  by_cases h4 : 4096 < s.size
  · exact ⟨got0 701, Ev.pos h4 (Ev.now _), .inl (by rw [if_pos h4])⟩
  by_cases h12 : s.size < 12
  · exact ⟨got0 700, Ev.neg h4 (Ev.pos h12 (Ev.now _)), .inl (by rw [if_neg h4])⟩
  have hS : s.size ≤ 16000 := by omega
  have bad : Ev (fun k => getV k s) (got0 700) → ∃ g : Got, Ev (fun k => getV k s) g ∧ Tells s g := fun h => ⟨_, h, .inl (by rw [if_neg h4])⟩
  have d4 := be2_bd s 4
  have d6 := be2_bd s 6
  have d8 := be2_bd s 8
  have d10 := be2_bd s 10
  rcases listQ_cases hS (be2 s 4).toNat 12 (by omega) with ⟨o, j, h⟩ | ⟨oq, x1, ho1, hn1, hm1, hl1, h1⟩
  · refine bad (Ev.neg h4 (Ev.neg h12 (Ev.bind h ?_)))
    exact Ev.bind (Ev.some _ fun k => listR_badstart _ _) (Ev.bind (Ev.some _ fun k => listR_badstart _ _) (Ev.bind (Ev.some _ fun k => listR_badstart _ _) (Ev.pos rfl (Ev.now _))))
  have k1 := h1 ⟨#[]⟩ (by rw [app_nil]; exact hS)
  rw [app_nil] at k1
  rcases listR_cases hS (be2 s 6).toNat x1 hl1 with ⟨o, j, h⟩ | ⟨oa, x2, ho2, hn2, hm2, hl2, h2⟩
  · refine bad (Ev.neg h4 (Ev.neg h12 (Ev.bind k1 (Ev.bind h ?_))))
    exact Ev.bind (Ev.some _ fun k => listR_badstart _ _) (Ev.bind (Ev.some _ fun k => listR_badstart _ _) (Ev.pos rfl (Ev.now _)))
  have k2 := h2 ⟨#[]⟩ (by rw [app_nil]; exact hS)
  rw [app_nil] at k2
  rcases listR_cases hS (be2 s 8).toNat x2 hl2 with ⟨o, j, h⟩ | ⟨on, x3, ho3, hn3, hm3, hl3, h3⟩
  · refine bad (Ev.neg h4 (Ev.neg h12 (Ev.bind k1 (Ev.bind k2 (Ev.bind h ?_)))))
    exact Ev.bind (Ev.some _ fun k => listR_badstart _ _) (Ev.pos rfl (Ev.now _))
  have k3 := h3 ⟨#[]⟩ (by rw [app_nil]; exact hS)
  rw [app_nil] at k3
  rcases listR_cases hS (be2 s 10).toNat x3 hl3 with ⟨o, j, h⟩ | ⟨orr, x4, ho4, hn4, hm4, hl4, h4'⟩
  · refine bad (Ev.neg h4 (Ev.neg h12 (Ev.bind k1 (Ev.bind k2 (Ev.bind k3 (Ev.bind h ?_))))))
    exact Ev.pos rfl (Ev.now _)
  have k4 := h4' ⟨#[]⟩ (by rw [app_nil]; exact hS)
  rw [app_nil] at k4
  by_cases hx : x4 = s.size
  · refine ⟨⟨Hd.getH s, oq, oa, on, orr, 0⟩, Ev.neg h4 (Ev.neg h12 (Ev.bind k1 (Ev.bind k2 (Ev.bind k3 (Ev.bind k4 (Ev.neg (by simp; omega) (Ev.now _))))))), .inr ⟨rfl, by omega, ?_, fun U hU hz => ?_⟩⟩
    · unfold putOk hOk
      rw [Bool.and_eq_true]
      constructor
      · have := Hd.getH_may s
        show Hd.mayB (Hd.getH s) (oq.length : Int) (oa.length : Int) (on.length : Int) (orr.length : Int) = true
        rw [show (oq.length : Int) = be2 s 4 by omega, show (oa.length : Int) = be2 s 6 by omega, show (on.length : Int) = be2 s 8 by omega, show (orr.length : Int) = be2 s 10 by omega]
        exact this
      · show fitsB oq oa on orr = true
        unfold fitsB
        simp only [Bool.and_eq_true, List.all_eq_true, decide_eq_true_eq]
        exact ⟨⟨⟨⟨by omega, hm1⟩, by omega, hm2⟩, by omega, hm3⟩, by omega, hm4⟩
    · have zz : (s ++ U).size = s.size + U.size := ByteArray.size_append
      have z' : (s ++ U).size ≤ 16000 := by omega
      refine Ev.neg (by omega) (Ev.neg (by omega) ?_)
      rw [Hd.be2_left _ _ _ (by omega), Hd.be2_left _ _ _ (by omega), Hd.be2_left _ _ _ (by omega), Hd.be2_left _ _ _ (by omega)]
      exact Ev.bind (h1 U z') (Ev.bind (h2 U z') (Ev.bind (h3 U z') (Ev.bind (h4' U z') (Ev.pos (by simp; omega) (Ev.now _)))))
  · exact bad (Ev.neg h4 (Ev.neg h12 (Ev.bind k1 (Ev.bind k2 (Ev.bind k3 (Ev.bind k4 (Ev.pos (by simp; omega) (Ev.now _))))))))
end Go.Proofs.Ytjklgdpffmaamaa.Wm

namespace Go.Proofs.Ytjklgdpffmaamaa.PWp
open Go.RowKit Go.Proofs.YtjklgdpffmaamaaW.PrintWords Go.Proofs.YtjklgdpffmaamaaW.PrintLast Go.Proofs.YtjklgdpffmaamaaW.PrintMore
attribute [local go_sem] max2_int min2_int max_two min_two max_three min_three max_four min_four   -- for this text's walks alone
set_option linter.unusedVariables false
set_option linter.unusedSimpArgs false

def errW : Option Int → Value
  | none => .nilIface
  | some c => .iface 0 (.int .i64 c)
theorem errW_none : errW none = .nilIface := rfl
theorem errW_some (c : Int) : errW (some c) = .iface 0 (.int .i64 c) := rfl

theorem info5 : (Try.prog.info? 5).map (fun i => (i.zero, i.size, i.bytes)) = some (some (.int .u8 0), 1, 1) := by kernel_rfl
-- the values' own types
/-! #### struct type 40 -/
structure S40 where
  f0 : ByteArray
  f1 : Int
  f2 : Int
def z40 : S40 := ⟨(⟨#[]⟩ : ByteArray), (0 : Int), (0 : Int)⟩
def k40 : Kd S40 := Kd.iso (Kd.pair Kd.string (Kd.pair (Kd.int .i64) (Kd.int .i64))) (fun x : S40 => (x.f0, x.f1, x.f2))
theorem k40_open {w : World} {x : S40} {cs : List Value} (h : k40.K w x cs) : cs = [.string x.f0, .int .i64 x.f1, .int .i64 x.f2] := by
  obtain ⟨_, _, rfl, rfl, ⟨_, _, rfl, rfl, rfl⟩⟩ := h
  exact rfl
theorem k40_mkM (w : World) (base : Nat) (ok : Nat → Prop) (x : S40)  : k40.M w base ok x [.string x.f0, .int .i64 x.f1, .int .i64 x.f2] := ⟨[.string x.f0], [.int .i64 x.f1, .int .i64 x.f2], rfl, rfl, ⟨[.int .i64 x.f1], [.int .i64 x.f2], rfl, rfl, rfl⟩⟩
def rd_T40 (xs : List S40) (i : Int) : S40 := xs.getD i.toNat z40
theorem at_T40 {w : World} {A : Option Addr} {n : Nat} {xs : List S40} (h : Kd.C k40 w A n xs) (i : Int) (h0 : 0 ≤ i) (h1 : i < n) : ∃ ad , A = some ad ∧ w.cell? (ad.add (i.toNat * 3)) = some (.string (rd_T40 xs i).f0) ∧ w.cell? ⟨(ad.add (i.toNat * 3)).block, (ad.add (i.toNat * 3)).off + 1, none⟩ = some (.int .i64 (rd_T40 xs i).f1) ∧ w.cell? ⟨(ad.add (i.toNat * 3)).block, (ad.add (i.toNat * 3)).off + 2, none⟩ = some (.int .i64 (rd_T40 xs i).f2) := by
  obtain ⟨ad, c, e, _, hK, hc0⟩ := Kd.C_get h z40 i h0 h1
  have hc : ∀ j u, c[j]? = some u → w.cell? (ad.add (i.toNat * 3 + j)) = some u := hc0
  obtain rfl := k40_open hK
  exact ⟨ad, e, hc 0 _ rfl, by rw [← add_field _ _ 1 (by omega)]; exact hc 1 _ rfl, by rw [← add_field _ _ 2 (by omega)]; exact hc 2 _ rfl⟩

/-! #### struct type 53 -/
structure S53 where
  f0 : ByteArray
  f1 : Int
  f2 : Int
  f3 : Int
  f4 : ByteArray
def z53 : S53 := ⟨(⟨#[]⟩ : ByteArray), (0 : Int), (0 : Int), (0 : Int), (⟨#[]⟩ : ByteArray)⟩
def k53 : Kd S53 := Kd.iso (Kd.pair Kd.string (Kd.pair (Kd.int .i64) (Kd.pair (Kd.int .i64) (Kd.pair (Kd.int .i64) Kd.string)))) (fun x : S53 => (x.f0, x.f1, x.f2, x.f3, x.f4))
theorem k53_open {w : World} {x : S53} {cs : List Value} (h : k53.K w x cs) : cs = [.string x.f0, .int .i64 x.f1, .int .i64 x.f2, .int .i64 x.f3, .string x.f4] := by
  obtain ⟨_, _, rfl, rfl, ⟨_, _, rfl, rfl, ⟨_, _, rfl, rfl, ⟨_, _, rfl, rfl, rfl⟩⟩⟩⟩ := h
  exact rfl
theorem k53_mkM (w : World) (base : Nat) (ok : Nat → Prop) (x : S53)  : k53.M w base ok x [.string x.f0, .int .i64 x.f1, .int .i64 x.f2, .int .i64 x.f3, .string x.f4] := ⟨[.string x.f0], [.int .i64 x.f1, .int .i64 x.f2, .int .i64 x.f3, .string x.f4], rfl, rfl, ⟨[.int .i64 x.f1], [.int .i64 x.f2, .int .i64 x.f3, .string x.f4], rfl, rfl, ⟨[.int .i64 x.f2], [.int .i64 x.f3, .string x.f4], rfl, rfl, ⟨[.int .i64 x.f3], [.string x.f4], rfl, rfl, rfl⟩⟩⟩⟩
def rd_T53 (xs : List S53) (i : Int) : S53 := xs.getD i.toNat z53
theorem at_T53 {w : World} {A : Option Addr} {n : Nat} {xs : List S53} (h : Kd.C k53 w A n xs) (i : Int) (h0 : 0 ≤ i) (h1 : i < n) : ∃ ad , A = some ad ∧ w.cell? (ad.add (i.toNat * 5)) = some (.string (rd_T53 xs i).f0) ∧ w.cell? ⟨(ad.add (i.toNat * 5)).block, (ad.add (i.toNat * 5)).off + 1, none⟩ = some (.int .i64 (rd_T53 xs i).f1) ∧ w.cell? ⟨(ad.add (i.toNat * 5)).block, (ad.add (i.toNat * 5)).off + 2, none⟩ = some (.int .i64 (rd_T53 xs i).f2) ∧ w.cell? ⟨(ad.add (i.toNat * 5)).block, (ad.add (i.toNat * 5)).off + 3, none⟩ = some (.int .i64 (rd_T53 xs i).f3) ∧ w.cell? ⟨(ad.add (i.toNat * 5)).block, (ad.add (i.toNat * 5)).off + 4, none⟩ = some (.string (rd_T53 xs i).f4) := by
  obtain ⟨ad, c, e, _, hK, hc0⟩ := Kd.C_get h z53 i h0 h1
  have hc : ∀ j u, c[j]? = some u → w.cell? (ad.add (i.toNat * 5 + j)) = some u := hc0
  obtain rfl := k53_open hK
  exact ⟨ad, e, hc 0 _ rfl, by rw [← add_field _ _ 1 (by omega)]; exact hc 1 _ rfl, by rw [← add_field _ _ 2 (by omega)]; exact hc 2 _ rfl, by rw [← add_field _ _ 3 (by omega)]; exact hc 3 _ rfl, by rw [← add_field _ _ 4 (by omega)]; exact hc 4 _ rfl⟩

end Go.Proofs.Ytjklgdpffmaamaa.PWp

namespace Go.Proofs.Ytjklgdpffmaamaa.PWp
open Go.RowKit Go.Proofs.YtjklgdpffmaamaaW.PrintWords Go.Proofs.YtjklgdpffmaamaaW.PrintLast Go.Proofs.YtjklgdpffmaamaaW.PrintMore
attribute [local go_sem] max2_int min2_int max_two min_two max_three min_three max_four min_four   -- for this text's walks alone
set_option linter.unusedVariables false
set_option linter.unusedSimpArgs false

theorem eqA23 (d : Nat) (w : World) (x0 y0 : Int) (x1 y1 : Bool) (x2 y2 : Int) (x3 y3 : Bool) (x4 y4 : Bool) (x5 y5 : Bool) (x6 y6 : Bool) (x7 y7 : Int) (x8 y8 : Int) :
    (Op.equalIn (d + 2) 23 (.agg #[.int .i64 x0, .bool x1, .int .i64 x2, .bool x3, .bool x4, .bool x5, .bool x6, .int .i64 x7, .int .i64 x8]) (.agg #[.int .i64 y0, .bool y1, .int .i64 y2, .bool y3, .bool y4, .bool y5, .bool y6, .int .i64 y7, .int .i64 y8])).run Try.prog w = .ok (x0 == y0 && (x1 == y1 && (x2 == y2 && (x3 == y3 && (x4 == y4 && (x5 == y5 && (x6 == y6 && (x7 == y7 && (x8 == y8))))))))) w := by
  refine eqA_of Try.underlying23 (by kernel_rfl) ?_
  refine eqf_cons (by rfl) (by go_simp; rfl) (by go_simp; rfl) (by go_simp) ?_
  refine eqf_cons (by rfl) (by go_simp; rfl) (by go_simp; rfl) (by go_simp) ?_
  refine eqf_cons (by rfl) (by go_simp; rfl) (by go_simp; rfl) (by go_simp) ?_
  refine eqf_cons (by rfl) (by go_simp; rfl) (by go_simp; rfl) (by go_simp) ?_
  refine eqf_cons (by rfl) (by go_simp; rfl) (by go_simp; rfl) (by go_simp) ?_
  refine eqf_cons (by rfl) (by go_simp; rfl) (by go_simp; rfl) (by go_simp) ?_
  refine eqf_cons (by rfl) (by go_simp; rfl) (by go_simp; rfl) (by go_simp) ?_
  refine eqf_cons (by rfl) (by go_simp; rfl) (by go_simp; rfl) (by go_simp) ?_
  exact eqf_last (by rfl) (by go_simp; rfl) (by go_simp; rfl) (by go_simp)
end Go.Proofs.Ytjklgdpffmaamaa.PWp

namespace Go.Proofs.Ytjklgdpffmaamaa.PWp
open Go.RowKit Go.Proofs.YtjklgdpffmaamaaW.PrintWords Go.Proofs.YtjklgdpffmaamaaW.PrintLast Go.Proofs.YtjklgdpffmaamaaW.PrintMore
attribute [local go_sem] max2_int min2_int max_two min_two max_three min_three max_four min_four   -- for this text's walks alone
set_option linter.unusedVariables false
set_option linter.unusedSimpArgs false

theorem eqA40 (d : Nat) (w : World) (x0 y0 : ByteArray) (x1 y1 : Int) (x2 y2 : Int) :
    (Op.equalIn (d + 2) 40 (.agg #[.string x0, .int .i64 x1, .int .i64 x2]) (.agg #[.string y0, .int .i64 y1, .int .i64 y2])).run Try.prog w = .ok (x0.toList == y0.toList && (x1 == y1 && (x2 == y2))) w := by
  refine eqA_of Try.underlying40 (by kernel_rfl) ?_
  refine eqf_cons (by rfl) (by go_simp; rfl) (by go_simp; rfl) (by go_simp) ?_
  refine eqf_cons (by rfl) (by go_simp; rfl) (by go_simp; rfl) (by go_simp) ?_
  exact eqf_last (by rfl) (by go_simp; rfl) (by go_simp; rfl) (by go_simp)
end Go.Proofs.Ytjklgdpffmaamaa.PWp

namespace Go.Proofs.Ytjklgdpffmaamaa.PWp
open Go.RowKit Go.Proofs.YtjklgdpffmaamaaW.PrintWords Go.Proofs.YtjklgdpffmaamaaW.PrintLast Go.Proofs.YtjklgdpffmaamaaW.PrintMore
attribute [local go_sem] max2_int min2_int max_two min_two max_three min_three max_four min_four   -- for this text's walks alone
set_option linter.unusedVariables false
set_option linter.unusedSimpArgs false

theorem eqA53 (d : Nat) (w : World) (x0 y0 : ByteArray) (x1 y1 : Int) (x2 y2 : Int) (x3 y3 : Int) (x4 y4 : ByteArray) :
    (Op.equalIn (d + 2) 53 (.agg #[.string x0, .int .i64 x1, .int .i64 x2, .int .i64 x3, .string x4]) (.agg #[.string y0, .int .i64 y1, .int .i64 y2, .int .i64 y3, .string y4])).run Try.prog w = .ok (x0.toList == y0.toList && (x1 == y1 && (x2 == y2 && (x3 == y3 && (x4.toList == y4.toList))))) w := by
  refine eqA_of Try.underlying53 (by kernel_rfl) ?_
  refine eqf_cons (by rfl) (by go_simp; rfl) (by go_simp; rfl) (by go_simp) ?_
  refine eqf_cons (by rfl) (by go_simp; rfl) (by go_simp; rfl) (by go_simp) ?_
  refine eqf_cons (by rfl) (by go_simp; rfl) (by go_simp; rfl) (by go_simp) ?_
  refine eqf_cons (by rfl) (by go_simp; rfl) (by go_simp; rfl) (by go_simp) ?_
  exact eqf_last (by rfl) (by go_simp; rfl) (by go_simp; rfl) (by go_simp)
end Go.Proofs.Ytjklgdpffmaamaa.PWp

namespace Go.Proofs.Ytjklgdpffmaamaa.PWp
open Go.RowKit Go.Proofs.YtjklgdpffmaamaaW.PrintWords Go.Proofs.YtjklgdpffmaamaaW.PrintLast Go.Proofs.YtjklgdpffmaamaaW.PrintMore
attribute [local go_sem] max2_int min2_int max_two min_two max_three min_three max_four min_four   -- for this text's walks alone
set_option linter.unusedVariables false
set_option linter.unusedSimpArgs false

attribute [local go_sem high] eqA23 eqA40 eqA53
/-! ### wimplelaw0_SameQuestions: function 31 -/
def wimplelaw0_SameQuestions.l0 : Nat → List (S40) → List (S40) → Int → Option (Bool)
  | 0, _, _, _ => none
  | k + 1, x0, x1, x5 => if x5 < (x0.length : Int) then (if 0 ≤ x5 then (if x5 < (x1.length : Int) then (if (!((((rd_T40 x0 x5).f0).toList) == (((rd_T40 x1 x5).f0).toList)) || (!(((rd_T40 x0 x5).f1) == ((rd_T40 x1 x5).f1)) || (!(((rd_T40 x0 x5).f2) == ((rd_T40 x1 x5).f2))))) = true then (some false) else (wimplelaw0_SameQuestions.l0 k x0 x1 (wrap64 (x5 + 1)))) else (none)) else (none)) else (some true)
def wimplelaw0_SameQuestions.f (k : Nat) (l0 : List (S40)) (l1 : List (S40)) : Option (Bool) := if (l0.length : Int) = (l1.length : Int) then (wimplelaw0_SameQuestions.l0 k l0 l1 0) else (some false)
theorem wimplelaw0_SameQuestions.mono_l : ∀ k, (∀ y0 y1 y2, LeO (wimplelaw0_SameQuestions.l0 k y0 y1 y2) (wimplelaw0_SameQuestions.l0 (k + 1) y0 y1 y2))
  | 0 => fun _ _ _ r h => by simp [wimplelaw0_SameQuestions.l0] at h
  | k + 1 => by
    have ih0 := wimplelaw0_SameQuestions.mono_l k
    · intro y0 y1 y2
      unfold wimplelaw0_SameQuestions.l0
      repeat' first
      | (with_reducible exact ih0 _ _ _)
      | (with_reducible exact LeO.refl _)
      | (with_reducible exact LeO.none _)
      | (with_reducible refine LeO.ite ?_ ?_)
      | (with_reducible refine LeO.bind ?_ (fun _ => ?_))
      | exact ih0 _ _ _
      | exact LeO.none _
      | refine LeO.ite ?_ ?_
      | refine LeO.bind ?_ (fun _ => ?_)
theorem wimplelaw0_SameQuestions.mono : ∀ a0 a1 k, LeO (wimplelaw0_SameQuestions.f k a0 a1) (wimplelaw0_SameQuestions.f (k + 1) a0 a1) := by
  intro a0 a1 k
  have ih0 := wimplelaw0_SameQuestions.mono_l k
  unfold wimplelaw0_SameQuestions.f
  repeat' first
      | (with_reducible exact ih0 _ _ _)
      | (with_reducible exact LeO.refl _)
      | (with_reducible exact LeO.none _)
      | (with_reducible refine LeO.ite ?_ ?_)
      | (with_reducible refine LeO.bind ?_ (fun _ => ?_))
      | exact ih0 _ _ _
      | exact LeO.none _
      | refine LeO.ite ?_ ?_
      | refine LeO.bind ?_ (fun _ => ?_)
set_option maxHeartbeats 8000000 in
set_option maxRecDepth 100000 in
theorem wimplelaw0_SameQuestions.calls (k : Nat) (A0 : Option Addr) (c0 : Nat) (l0 : List (S40)) (A1 : Option Addr) (c1 : Nat) (l1 : List (S40)) (r : Bool) (w : World) (hr0 : Kd.C k40 w A0 l0.length l0) (hc0 : l0.length ≤ c0) (hr1 : Kd.C k40 w A1 l1.length l1) (hc1 : l1.length ≤ c1) (h : wimplelaw0_SameQuestions.f k l0 l1 = some r) :
    Calls Try.prog 31 #[.slice A0 l0.length c0, .slice A1 l1.length c1] w fun e w' => e = .returned (.bool r) ∧ Drawn0 w w' := by
  have hu40 := Try.underlying40
  have HR0 := Aside0.mk hr0
  have HC0 := Aside0.mk hc0
  clear hr0 hc0
  have HR1 := Aside0.mk hr1
  have HC1 := Aside0.mk hc1
  clear hr1 hc1
  have H : (if (l0.length : Int) = (l1.length : Int) then (wimplelaw0_SameQuestions.l0 k l0 l1 0) else (some false)) = some r := h
  clear h
  by_cases c3 : (l0.length : Int) = (l1.length : Int)
  · rw [if_pos c3] at H
    have c3b0 : ((l0.length : Int) == (l1.length : Int)) = true := beq_iff_eq.mpr c3
    have c3b1 : ((l0.length : Int) != (l1.length : Int)) = false := bne_eq_false_iff_eq.mpr c3
    have c3b2 : (l0.length == l1.length) = true := by first | simpa using c3 | (simp at c3 ⊢; omega)
    clear c3
    have H' := Aside0.mk H
    clear H
    go_enter Try.func31, Try.ntmps31
    go_wp2
    repeat (go_quiet (fail); try go_wp2)
    go_loopg [5] k (fun kq v5 w' => ∃ (x5_1 : Int), v5 = .int .i64 x5_1 ∧ Aside0 (wimplelaw0_SameQuestions.l0 kq l0 l1 x5_1 = some r) ∧ Aside0 (kq ≤ k) ∧ Drawn0 w w')
    case atStart => exact ⟨(0), (by first | rfl | (simp; done) | (simp [*]; done)), H', ⟨Nat.le_refl _⟩, by repeat (first | exact Drawn0.refl _ | apply Drawn0.step)⟩
    case round =>
      clear H'
      try clear c1
      try clear p2
      try clear c3
      try clear c3b0
      try clear c3b1
      try clear c3b2
      obtain ⟨x5_1, rfl, HA, HK1, ⟨m1, rfl⟩⟩ := hrel
      cases gk with
      | zero => exact absurd HA.out (by simp [wimplelaw0_SameQuestions.l0])
      | succ k1 =>
        have H := HA.out
        clear HA
        simp only [wimplelaw0_SameQuestions.l0] at H
        by_cases c4 : x5_1 < (l0.length : Int)
        · rw [if_pos c4] at H
          have c4b0 : decide (x5_1 < (l0.length : Int)) = true := decide_eq_true c4
          clear c4
          by_cases c5 : 0 ≤ x5_1
          · rw [if_pos c5] at H
            have c5b0 : decide (0 ≤ x5_1) = true := decide_eq_true c5
            clear c5
            by_cases c6 : x5_1 < (l1.length : Int)
            · rw [if_pos c6] at H
              have c6b0 : decide (x5_1 < (l1.length : Int)) = true := decide_eq_true c6
              clear c6
              by_cases c7 : (!((((rd_T40 l0 x5_1).f0).toList) == (((rd_T40 l1 x5_1).f0).toList)) || (!(((rd_T40 l0 x5_1).f1) == ((rd_T40 l1 x5_1).f1)) || (!(((rd_T40 l0 x5_1).f2) == ((rd_T40 l1 x5_1).f2))))) = true
              · rw [if_pos c7] at H
                have c7b0 : (!((((rd_T40 l0 x5_1).f0).toList) == (((rd_T40 l1 x5_1).f0).toList)) || (!(((rd_T40 l0 x5_1).f1) == ((rd_T40 l1 x5_1).f1)) || (!(((rd_T40 l0 x5_1).f2) == ((rd_T40 l1 x5_1).f2))))) = true := c7
                clear c7
                obtain rfl := Option.some.inj H
                have p101 : 0 ≤ (x5_1 : Int) := of_decide_eq_true (by first | (with_reducible assumption) | assumption)
                have q101 : x5_1 < (l0.length : Int) := of_decide_eq_true (by first | (with_reducible assumption) | assumption)
                obtain ⟨ad101, e101, hx101_0, hx101_1, hx101_2⟩ := at_T40 HR0.out x5_1 p101 q101
                cases e101
                replace p101 := eq_true p101
                replace q101 := eq_true q101
                have p102 : 0 ≤ (x5_1 : Int) := of_decide_eq_true (by first | (with_reducible assumption) | assumption)
                have q102 : x5_1 < (l1.length : Int) := of_decide_eq_true (by first | (with_reducible assumption) | assumption)
                obtain ⟨ad102, e102, hx102_0, hx102_1, hx102_2⟩ := at_T40 HR1.out x5_1 p102 q102
                cases e102
                replace p102 := eq_true p102
                replace q102 := eq_true q102
                go_wp2
                repeat (go_quiet (fail); try go_wp2)
                go_ret
                exact ⟨by first | rfl | (simp; done) | (simp [*]; done), by repeat (first | exact Drawn0.refl _ | apply Drawn0.step)⟩
              · rw [if_neg c7] at H
                have c7b0 : (!((((rd_T40 l0 x5_1).f0).toList) == (((rd_T40 l1 x5_1).f0).toList)) || (!(((rd_T40 l0 x5_1).f1) == ((rd_T40 l1 x5_1).f1)) || (!(((rd_T40 l0 x5_1).f2) == ((rd_T40 l1 x5_1).f2))))) = false := by simpa using c7
                clear c7
                have H' := Aside0.mk H
                clear H
                have p101 : 0 ≤ (x5_1 : Int) := of_decide_eq_true (by first | (with_reducible assumption) | assumption)
                have q101 : x5_1 < (l0.length : Int) := of_decide_eq_true (by first | (with_reducible assumption) | assumption)
                obtain ⟨ad101, e101, hx101_0, hx101_1, hx101_2⟩ := at_T40 HR0.out x5_1 p101 q101
                cases e101
                replace p101 := eq_true p101
                replace q101 := eq_true q101
                have p102 : 0 ≤ (x5_1 : Int) := of_decide_eq_true (by first | (with_reducible assumption) | assumption)
                have q102 : x5_1 < (l1.length : Int) := of_decide_eq_true (by first | (with_reducible assumption) | assumption)
                obtain ⟨ad102, e102, hx102_0, hx102_1, hx102_2⟩ := at_T40 HR1.out x5_1 p102 q102
                cases e102
                replace p102 := eq_true p102
                replace q102 := eq_true q102
                go_wp2
                repeat (go_quiet (fail); try go_wp2)
                go_roundg k1
                case measure => have := HK1.out; omega
                case rel => exact ⟨(wrap64 (x5_1 + 1)), (by first | rfl | (simp; done) | (simp [*]; done)), H', ⟨by have := HK1.out; omega⟩, by repeat (first | exact Drawn0.refl _ | apply Drawn0.step)⟩
            · rw [if_neg c6] at H
              exact absurd H (by simp)
          · rw [if_neg c5] at H
            exact absurd H (by simp)
        · rw [if_neg c4] at H
          have c4b0 : decide (x5_1 < (l0.length : Int)) = false := decide_eq_false c4
          clear c4
          obtain rfl := Option.some.inj H
          go_wp2
          repeat (go_quiet (fail); try go_wp2)
          go_ret
          exact ⟨by first | rfl | (simp; done) | (simp [*]; done), by repeat (first | exact Drawn0.refl _ | apply Drawn0.step)⟩
  · rw [if_neg c3] at H
    have c3b0 : ((l0.length : Int) == (l1.length : Int)) = false := beq_eq_false_iff_ne.mpr c3
    have c3b1 : ((l0.length : Int) != (l1.length : Int)) = true := bne_iff_ne.mpr c3
    have c3b2 : (l0.length == l1.length) = false := by first | simpa using c3 | (simp at c3 ⊢; omega)
    obtain rfl := Option.some.inj H
    go_enter Try.func31, Try.ntmps31
    go_wp2
    repeat (go_quiet (fail); try go_wp2)
    go_ret
    exact ⟨by first | rfl | (simp; done) | (simp [*]; done), by repeat (first | exact Drawn0.refl _ | apply Drawn0.step)⟩

/-! ### wimplelaw0_SameRrs: function 44 -/
def wimplelaw0_SameRrs.l0 : Nat → List (S53) → List (S53) → Int → Option (Bool)
  | 0, _, _, _ => none
  | k + 1, x0, x1, x5 => if x5 < (x0.length : Int) then (if 0 ≤ x5 then (if x5 < (x1.length : Int) then (if (!((((rd_T53 x0 x5).f0).toList) == (((rd_T53 x1 x5).f0).toList)) || (!(((rd_T53 x0 x5).f1) == ((rd_T53 x1 x5).f1)) || (!(((rd_T53 x0 x5).f2) == ((rd_T53 x1 x5).f2)) || (!(((rd_T53 x0 x5).f3) == ((rd_T53 x1 x5).f3)) || (!((((rd_T53 x0 x5).f4).toList) == (((rd_T53 x1 x5).f4).toList))))))) = true then (some false) else (wimplelaw0_SameRrs.l0 k x0 x1 (wrap64 (x5 + 1)))) else (none)) else (none)) else (some true)
def wimplelaw0_SameRrs.f (k : Nat) (l0 : List (S53)) (l1 : List (S53)) : Option (Bool) := if (l0.length : Int) = (l1.length : Int) then (wimplelaw0_SameRrs.l0 k l0 l1 0) else (some false)
theorem wimplelaw0_SameRrs.mono_l : ∀ k, (∀ y0 y1 y2, LeO (wimplelaw0_SameRrs.l0 k y0 y1 y2) (wimplelaw0_SameRrs.l0 (k + 1) y0 y1 y2))
  | 0 => fun _ _ _ r h => by simp [wimplelaw0_SameRrs.l0] at h
  | k + 1 => by
    have ih0 := wimplelaw0_SameRrs.mono_l k
    · intro y0 y1 y2
      unfold wimplelaw0_SameRrs.l0
      repeat' first
      | (with_reducible exact ih0 _ _ _)
      | (with_reducible exact LeO.refl _)
      | (with_reducible exact LeO.none _)
      | (with_reducible refine LeO.ite ?_ ?_)
      | (with_reducible refine LeO.bind ?_ (fun _ => ?_))
      | exact ih0 _ _ _
      | exact LeO.none _
      | refine LeO.ite ?_ ?_
      | refine LeO.bind ?_ (fun _ => ?_)
theorem wimplelaw0_SameRrs.mono : ∀ a0 a1 k, LeO (wimplelaw0_SameRrs.f k a0 a1) (wimplelaw0_SameRrs.f (k + 1) a0 a1) := by
  intro a0 a1 k
  have ih0 := wimplelaw0_SameRrs.mono_l k
  unfold wimplelaw0_SameRrs.f
  repeat' first
      | (with_reducible exact ih0 _ _ _)
      | (with_reducible exact LeO.refl _)
      | (with_reducible exact LeO.none _)
      | (with_reducible refine LeO.ite ?_ ?_)
      | (with_reducible refine LeO.bind ?_ (fun _ => ?_))
      | exact ih0 _ _ _
      | exact LeO.none _
      | refine LeO.ite ?_ ?_
      | refine LeO.bind ?_ (fun _ => ?_)
set_option maxHeartbeats 8000000 in
set_option maxRecDepth 100000 in
theorem wimplelaw0_SameRrs.calls (k : Nat) (A0 : Option Addr) (c0 : Nat) (l0 : List (S53)) (A1 : Option Addr) (c1 : Nat) (l1 : List (S53)) (r : Bool) (w : World) (hr0 : Kd.C k53 w A0 l0.length l0) (hc0 : l0.length ≤ c0) (hr1 : Kd.C k53 w A1 l1.length l1) (hc1 : l1.length ≤ c1) (h : wimplelaw0_SameRrs.f k l0 l1 = some r) :
    Calls Try.prog 44 #[.slice A0 l0.length c0, .slice A1 l1.length c1] w fun e w' => e = .returned (.bool r) ∧ Drawn0 w w' := by
  have hu53 := Try.underlying53
  have HR0 := Aside0.mk hr0
  have HC0 := Aside0.mk hc0
  clear hr0 hc0
  have HR1 := Aside0.mk hr1
  have HC1 := Aside0.mk hc1
  clear hr1 hc1
  have H : (if (l0.length : Int) = (l1.length : Int) then (wimplelaw0_SameRrs.l0 k l0 l1 0) else (some false)) = some r := h
  clear h
  by_cases c3 : (l0.length : Int) = (l1.length : Int)
  · rw [if_pos c3] at H
    have c3b0 : ((l0.length : Int) == (l1.length : Int)) = true := beq_iff_eq.mpr c3
    have c3b1 : ((l0.length : Int) != (l1.length : Int)) = false := bne_eq_false_iff_eq.mpr c3
    have c3b2 : (l0.length == l1.length) = true := by first | simpa using c3 | (simp at c3 ⊢; omega)
    clear c3
    have H' := Aside0.mk H
    clear H
    go_enter Try.func44, Try.ntmps44
    go_wp2
    repeat (go_quiet (fail); try go_wp2)
    go_loopg [5] k (fun kq v5 w' => ∃ (x5_1 : Int), v5 = .int .i64 x5_1 ∧ Aside0 (wimplelaw0_SameRrs.l0 kq l0 l1 x5_1 = some r) ∧ Aside0 (kq ≤ k) ∧ Drawn0 w w')
    case atStart => exact ⟨(0), (by first | rfl | (simp; done) | (simp [*]; done)), H', ⟨Nat.le_refl _⟩, by repeat (first | exact Drawn0.refl _ | apply Drawn0.step)⟩
    case round =>
      clear H'
      try clear c1
      try clear p2
      try clear c3
      try clear c3b0
      try clear c3b1
      try clear c3b2
      obtain ⟨x5_1, rfl, HA, HK1, ⟨m1, rfl⟩⟩ := hrel
      cases gk with
      | zero => exact absurd HA.out (by simp [wimplelaw0_SameRrs.l0])
      | succ k1 =>
        have H := HA.out
        clear HA
        simp only [wimplelaw0_SameRrs.l0] at H
        by_cases c4 : x5_1 < (l0.length : Int)
        · rw [if_pos c4] at H
          have c4b0 : decide (x5_1 < (l0.length : Int)) = true := decide_eq_true c4
          clear c4
          by_cases c5 : 0 ≤ x5_1
          · rw [if_pos c5] at H
            have c5b0 : decide (0 ≤ x5_1) = true := decide_eq_true c5
            clear c5
            by_cases c6 : x5_1 < (l1.length : Int)
            · rw [if_pos c6] at H
              have c6b0 : decide (x5_1 < (l1.length : Int)) = true := decide_eq_true c6
              clear c6
              by_cases c7 : (!((((rd_T53 l0 x5_1).f0).toList) == (((rd_T53 l1 x5_1).f0).toList)) || (!(((rd_T53 l0 x5_1).f1) == ((rd_T53 l1 x5_1).f1)) || (!(((rd_T53 l0 x5_1).f2) == ((rd_T53 l1 x5_1).f2)) || (!(((rd_T53 l0 x5_1).f3) == ((rd_T53 l1 x5_1).f3)) || (!((((rd_T53 l0 x5_1).f4).toList) == (((rd_T53 l1 x5_1).f4).toList))))))) = true
              · rw [if_pos c7] at H
                have c7b0 : (!((((rd_T53 l0 x5_1).f0).toList) == (((rd_T53 l1 x5_1).f0).toList)) || (!(((rd_T53 l0 x5_1).f1) == ((rd_T53 l1 x5_1).f1)) || (!(((rd_T53 l0 x5_1).f2) == ((rd_T53 l1 x5_1).f2)) || (!(((rd_T53 l0 x5_1).f3) == ((rd_T53 l1 x5_1).f3)) || (!((((rd_T53 l0 x5_1).f4).toList) == (((rd_T53 l1 x5_1).f4).toList))))))) = true := c7
                clear c7
                obtain rfl := Option.some.inj H
                have p103 : 0 ≤ (x5_1 : Int) := of_decide_eq_true (by first | (with_reducible assumption) | assumption)
                have q103 : x5_1 < (l0.length : Int) := of_decide_eq_true (by first | (with_reducible assumption) | assumption)
                obtain ⟨ad103, e103, hx103_0, hx103_1, hx103_2, hx103_3, hx103_4⟩ := at_T53 HR0.out x5_1 p103 q103
                cases e103
                replace p103 := eq_true p103
                replace q103 := eq_true q103
                have p104 : 0 ≤ (x5_1 : Int) := of_decide_eq_true (by first | (with_reducible assumption) | assumption)
                have q104 : x5_1 < (l1.length : Int) := of_decide_eq_true (by first | (with_reducible assumption) | assumption)
                obtain ⟨ad104, e104, hx104_0, hx104_1, hx104_2, hx104_3, hx104_4⟩ := at_T53 HR1.out x5_1 p104 q104
                cases e104
                replace p104 := eq_true p104
                replace q104 := eq_true q104
                go_wp2
                repeat (go_quiet (fail); try go_wp2)
                go_ret
                exact ⟨by first | rfl | (simp; done) | (simp [*]; done), by repeat (first | exact Drawn0.refl _ | apply Drawn0.step)⟩
              · rw [if_neg c7] at H
                have c7b0 : (!((((rd_T53 l0 x5_1).f0).toList) == (((rd_T53 l1 x5_1).f0).toList)) || (!(((rd_T53 l0 x5_1).f1) == ((rd_T53 l1 x5_1).f1)) || (!(((rd_T53 l0 x5_1).f2) == ((rd_T53 l1 x5_1).f2)) || (!(((rd_T53 l0 x5_1).f3) == ((rd_T53 l1 x5_1).f3)) || (!((((rd_T53 l0 x5_1).f4).toList) == (((rd_T53 l1 x5_1).f4).toList))))))) = false := by simpa using c7
                clear c7
                have H' := Aside0.mk H
                clear H
                have p103 : 0 ≤ (x5_1 : Int) := of_decide_eq_true (by first | (with_reducible assumption) | assumption)
                have q103 : x5_1 < (l0.length : Int) := of_decide_eq_true (by first | (with_reducible assumption) | assumption)
                obtain ⟨ad103, e103, hx103_0, hx103_1, hx103_2, hx103_3, hx103_4⟩ := at_T53 HR0.out x5_1 p103 q103
                cases e103
                replace p103 := eq_true p103
                replace q103 := eq_true q103
                have p104 : 0 ≤ (x5_1 : Int) := of_decide_eq_true (by first | (with_reducible assumption) | assumption)
                have q104 : x5_1 < (l1.length : Int) := of_decide_eq_true (by first | (with_reducible assumption) | assumption)
                obtain ⟨ad104, e104, hx104_0, hx104_1, hx104_2, hx104_3, hx104_4⟩ := at_T53 HR1.out x5_1 p104 q104
                cases e104
                replace p104 := eq_true p104
                replace q104 := eq_true q104
                go_wp2
                repeat (go_quiet (fail); try go_wp2)
                go_roundg k1
                case measure => have := HK1.out; omega
                case rel => exact ⟨(wrap64 (x5_1 + 1)), (by first | rfl | (simp; done) | (simp [*]; done)), H', ⟨by have := HK1.out; omega⟩, by repeat (first | exact Drawn0.refl _ | apply Drawn0.step)⟩
            · rw [if_neg c6] at H
              exact absurd H (by simp)
          · rw [if_neg c5] at H
            exact absurd H (by simp)
        · rw [if_neg c4] at H
          have c4b0 : decide (x5_1 < (l0.length : Int)) = false := decide_eq_false c4
          clear c4
          obtain rfl := Option.some.inj H
          go_wp2
          repeat (go_quiet (fail); try go_wp2)
          go_ret
          exact ⟨by first | rfl | (simp; done) | (simp [*]; done), by repeat (first | exact Drawn0.refl _ | apply Drawn0.step)⟩
  · rw [if_neg c3] at H
    have c3b0 : ((l0.length : Int) == (l1.length : Int)) = false := beq_eq_false_iff_ne.mpr c3
    have c3b1 : ((l0.length : Int) != (l1.length : Int)) = true := bne_iff_ne.mpr c3
    have c3b2 : (l0.length == l1.length) = false := by first | simpa using c3 | (simp at c3 ⊢; omega)
    obtain rfl := Option.some.inj H
    go_enter Try.func44, Try.ntmps44
    go_wp2
    repeat (go_quiet (fail); try go_wp2)
    go_ret
    exact ⟨by first | rfl | (simp; done) | (simp [*]; done), by repeat (first | exact Drawn0.refl _ | apply Drawn0.step)⟩

/-! ### wimplelaw0_SameMsg: function 20 -/
def wimplelaw0_SameMsg.f (k : Nat) (a0_0 : Int) (a0_1 : Bool) (a0_2 : Int) (a0_3 : Bool) (a0_4 : Bool) (a0_5 : Bool) (a0_6 : Bool) (a0_7 : Int) (a0_8 : Int) (l0_9 : List (S40)) (l0_10 : List (S53)) (l0_11 : List (S53)) (l0_12 : List (S53)) (a1_0 : Int) (a1_1 : Bool) (a1_2 : Int) (a1_3 : Bool) (a1_4 : Bool) (a1_5 : Bool) (a1_6 : Bool) (a1_7 : Int) (a1_8 : Int) (l1_9 : List (S40)) (l1_10 : List (S53)) (l1_11 : List (S53)) (l1_12 : List (S53)) : Option (Bool) := if (a0_0 == a1_0 && (a0_1 == a1_1 && (a0_2 == a1_2 && (a0_3 == a1_3 && (a0_4 == a1_4 && (a0_5 == a1_5 && (a0_6 == a1_6 && (a0_7 == a1_7 && (a0_8 == a1_8))))))))) = true then ((wimplelaw0_SameQuestions.f k l0_9 l1_9).bind fun t107 => (if t107 = true then ((wimplelaw0_SameRrs.f k l0_10 l1_10).bind fun t108 => (if t108 = true then ((wimplelaw0_SameRrs.f k l0_11 l1_11).bind fun t109 => (if t109 = true then ((wimplelaw0_SameRrs.f k l0_12 l1_12).bind fun t110 => (some t110)) else (some false))) else (some false))) else (some false))) else (some false)
theorem wimplelaw0_SameMsg.mono : ∀ a0 a1 a2 a3 a4 a5 a6 a7 a8 a9 a10 a11 a12 a13 a14 a15 a16 a17 a18 a19 a20 a21 a22 a23 a24 a25 k, LeO (wimplelaw0_SameMsg.f k a0 a1 a2 a3 a4 a5 a6 a7 a8 a9 a10 a11 a12 a13 a14 a15 a16 a17 a18 a19 a20 a21 a22 a23 a24 a25) (wimplelaw0_SameMsg.f (k + 1) a0 a1 a2 a3 a4 a5 a6 a7 a8 a9 a10 a11 a12 a13 a14 a15 a16 a17 a18 a19 a20 a21 a22 a23 a24 a25) := by
  intro a0 a1 a2 a3 a4 a5 a6 a7 a8 a9 a10 a11 a12 a13 a14 a15 a16 a17 a18 a19 a20 a21 a22 a23 a24 a25 k
  unfold wimplelaw0_SameMsg.f
  repeat' first
      | (with_reducible exact wimplelaw0_SameQuestions.mono _ _ _)
      | (with_reducible exact wimplelaw0_SameRrs.mono _ _ _)
      | (with_reducible exact LeO.refl _)
      | (with_reducible exact LeO.none _)
      | (with_reducible refine LeO.ite ?_ ?_)
      | (with_reducible refine LeO.bind ?_ (fun _ => ?_))
      | exact wimplelaw0_SameQuestions.mono _ _ _
      | exact wimplelaw0_SameRrs.mono _ _ _
      | exact LeO.none _
      | refine LeO.ite ?_ ?_
      | refine LeO.bind ?_ (fun _ => ?_)
set_option maxHeartbeats 8000000 in
set_option maxRecDepth 100000 in
theorem wimplelaw0_SameMsg.calls (k : Nat) (a0_0 : Int) (a0_1 : Bool) (a0_2 : Int) (a0_3 : Bool) (a0_4 : Bool) (a0_5 : Bool) (a0_6 : Bool) (a0_7 : Int) (a0_8 : Int) (A0_9 : Option Addr) (c0_9 : Nat) (l0_9 : List (S40)) (A0_10 : Option Addr) (c0_10 : Nat) (l0_10 : List (S53)) (A0_11 : Option Addr) (c0_11 : Nat) (l0_11 : List (S53)) (A0_12 : Option Addr) (c0_12 : Nat) (l0_12 : List (S53)) (a1_0 : Int) (a1_1 : Bool) (a1_2 : Int) (a1_3 : Bool) (a1_4 : Bool) (a1_5 : Bool) (a1_6 : Bool) (a1_7 : Int) (a1_8 : Int) (A1_9 : Option Addr) (c1_9 : Nat) (l1_9 : List (S40)) (A1_10 : Option Addr) (c1_10 : Nat) (l1_10 : List (S53)) (A1_11 : Option Addr) (c1_11 : Nat) (l1_11 : List (S53)) (A1_12 : Option Addr) (c1_12 : Nat) (l1_12 : List (S53)) (r : Bool) (w : World) (hr0_9 : Kd.C k40 w A0_9 l0_9.length l0_9) (hc0_9 : l0_9.length ≤ c0_9) (hr0_10 : Kd.C k53 w A0_10 l0_10.length l0_10) (hc0_10 : l0_10.length ≤ c0_10) (hr0_11 : Kd.C k53 w A0_11 l0_11.length l0_11) (hc0_11 : l0_11.length ≤ c0_11) (hr0_12 : Kd.C k53 w A0_12 l0_12.length l0_12) (hc0_12 : l0_12.length ≤ c0_12) (hr1_9 : Kd.C k40 w A1_9 l1_9.length l1_9) (hc1_9 : l1_9.length ≤ c1_9) (hr1_10 : Kd.C k53 w A1_10 l1_10.length l1_10) (hc1_10 : l1_10.length ≤ c1_10) (hr1_11 : Kd.C k53 w A1_11 l1_11.length l1_11) (hc1_11 : l1_11.length ≤ c1_11) (hr1_12 : Kd.C k53 w A1_12 l1_12.length l1_12) (hc1_12 : l1_12.length ≤ c1_12) (h : wimplelaw0_SameMsg.f k a0_0 a0_1 a0_2 a0_3 a0_4 a0_5 a0_6 a0_7 a0_8 l0_9 l0_10 l0_11 l0_12 a1_0 a1_1 a1_2 a1_3 a1_4 a1_5 a1_6 a1_7 a1_8 l1_9 l1_10 l1_11 l1_12 = some r) :
    Calls Try.prog 20 #[.agg #[.int .i64 a0_0, .bool a0_1, .int .i64 a0_2, .bool a0_3, .bool a0_4, .bool a0_5, .bool a0_6, .int .i64 a0_7, .int .i64 a0_8, .slice A0_9 l0_9.length c0_9, .slice A0_10 l0_10.length c0_10, .slice A0_11 l0_11.length c0_11, .slice A0_12 l0_12.length c0_12], .agg #[.int .i64 a1_0, .bool a1_1, .int .i64 a1_2, .bool a1_3, .bool a1_4, .bool a1_5, .bool a1_6, .int .i64 a1_7, .int .i64 a1_8, .slice A1_9 l1_9.length c1_9, .slice A1_10 l1_10.length c1_10, .slice A1_11 l1_11.length c1_11, .slice A1_12 l1_12.length c1_12]] w fun e w' => e = .returned (.bool r) ∧ Below w.heap.size w w' := by
  have hu27 := Try.underlying27
  have hu23 := Try.underlying23
  have HR0_9 := Aside0.mk hr0_9
  have HC0_9 := Aside0.mk hc0_9
  clear hr0_9 hc0_9
  have HR0_10 := Aside0.mk hr0_10
  have HC0_10 := Aside0.mk hc0_10
  clear hr0_10 hc0_10
  have HR0_11 := Aside0.mk hr0_11
  have HC0_11 := Aside0.mk hc0_11
  clear hr0_11 hc0_11
  have HR0_12 := Aside0.mk hr0_12
  have HC0_12 := Aside0.mk hc0_12
  clear hr0_12 hc0_12
  have HR1_9 := Aside0.mk hr1_9
  have HC1_9 := Aside0.mk hc1_9
  clear hr1_9 hc1_9
  have HR1_10 := Aside0.mk hr1_10
  have HC1_10 := Aside0.mk hc1_10
  clear hr1_10 hc1_10
  have HR1_11 := Aside0.mk hr1_11
  have HC1_11 := Aside0.mk hc1_11
  clear hr1_11 hc1_11
  have HR1_12 := Aside0.mk hr1_12
  have HC1_12 := Aside0.mk hc1_12
  clear hr1_12 hc1_12
  have HB := Aside0.mk (Below.refl w.heap.size w)
  have H : (if (a0_0 == a1_0 && (a0_1 == a1_1 && (a0_2 == a1_2 && (a0_3 == a1_3 && (a0_4 == a1_4 && (a0_5 == a1_5 && (a0_6 == a1_6 && (a0_7 == a1_7 && (a0_8 == a1_8))))))))) = true then ((wimplelaw0_SameQuestions.f k l0_9 l1_9).bind fun t107 => (if t107 = true then ((wimplelaw0_SameRrs.f k l0_10 l1_10).bind fun t108 => (if t108 = true then ((wimplelaw0_SameRrs.f k l0_11 l1_11).bind fun t109 => (if t109 = true then ((wimplelaw0_SameRrs.f k l0_12 l1_12).bind fun t110 => (some t110)) else (some false))) else (some false))) else (some false))) else (some false)) = some r := h
  clear h
  by_cases c3 : (a0_0 == a1_0 && (a0_1 == a1_1 && (a0_2 == a1_2 && (a0_3 == a1_3 && (a0_4 == a1_4 && (a0_5 == a1_5 && (a0_6 == a1_6 && (a0_7 == a1_7 && (a0_8 == a1_8))))))))) = true
  · rw [if_pos c3] at H
    (try (have c3b9 := c3; simp only [Bool.and_eq_true, beq_iff_eq] at c3b9; replace c3b9 := eq_true c3b9))
    have c3b0 : (a0_0 == a1_0 && (a0_1 == a1_1 && (a0_2 == a1_2 && (a0_3 == a1_3 && (a0_4 == a1_4 && (a0_5 == a1_5 && (a0_6 == a1_6 && (a0_7 == a1_7 && (a0_8 == a1_8))))))))) = true := c3
    (try (have c3b1 : decide (a0_0 = a1_0 && (a0_1 == a1_1 && (a0_2 == a1_2 && (a0_3 == a1_3 && (a0_4 == a1_4 && (a0_5 == a1_5 && (a0_6 == a1_6 && (a0_7 == a1_7 && (a0_8 == a1_8))))))))) = true := by simpa using c3))
    (try (have c3b2 : (a0_0 == a1_0 && (a0_1 == a1_1 && (a0_2 == a1_2 && (a0_3 == a1_3 && (a0_4 == a1_4 && (a0_5 == a1_5 && (a0_6 == a1_6 && (a0_7 == a1_7 && (a0_8 == a1_8))))))))) = true := by simpa using c3))
    clear c3
    replace H := Option.bind_eq_some_iff.mp H
    obtain ⟨t107, A40, H⟩ := H
    replace H : (if t107 = true then ((wimplelaw0_SameRrs.f k l0_10 l1_10).bind fun t108 => (if t108 = true then ((wimplelaw0_SameRrs.f k l0_11 l1_11).bind fun t109 => (if t109 = true then ((wimplelaw0_SameRrs.f k l0_12 l1_12).bind fun t110 => (some t110)) else (some false))) else (some false))) else (some false)) = some r := H
    have A4 := Aside0.mk A40
    clear A40
    by_cases c5 : t107 = true
    · subst c5
      have H1 : ((wimplelaw0_SameRrs.f k l0_10 l1_10).bind fun t108 => (if t108 = true then ((wimplelaw0_SameRrs.f k l0_11 l1_11).bind fun t109 => (if t109 = true then ((wimplelaw0_SameRrs.f k l0_12 l1_12).bind fun t110 => (some t110)) else (some false))) else (some false))) = some r := by rw [if_pos rfl] at H; exact H
      clear H
      have H := H1
      clear H1
      replace H := Option.bind_eq_some_iff.mp H
      obtain ⟨t108, A60, H⟩ := H
      replace H : (if t108 = true then ((wimplelaw0_SameRrs.f k l0_11 l1_11).bind fun t109 => (if t109 = true then ((wimplelaw0_SameRrs.f k l0_12 l1_12).bind fun t110 => (some t110)) else (some false))) else (some false)) = some r := H
      have A6 := Aside0.mk A60
      clear A60
      by_cases c7 : t108 = true
      · subst c7
        have H1 : ((wimplelaw0_SameRrs.f k l0_11 l1_11).bind fun t109 => (if t109 = true then ((wimplelaw0_SameRrs.f k l0_12 l1_12).bind fun t110 => (some t110)) else (some false))) = some r := by rw [if_pos rfl] at H; exact H
        clear H
        have H := H1
        clear H1
        replace H := Option.bind_eq_some_iff.mp H
        obtain ⟨t109, A80, H⟩ := H
        replace H : (if t109 = true then ((wimplelaw0_SameRrs.f k l0_12 l1_12).bind fun t110 => (some t110)) else (some false)) = some r := H
        have A8 := Aside0.mk A80
        clear A80
        by_cases c9 : t109 = true
        · subst c9
          have H1 : ((wimplelaw0_SameRrs.f k l0_12 l1_12).bind fun t110 => (some t110)) = some r := by rw [if_pos rfl] at H; exact H
          clear H
          have H := H1
          clear H1
          replace H := Option.bind_eq_some_iff.mp H
          obtain ⟨t110, A100, H⟩ := H
          replace H : (some t110) = some r := H
          have A10 := Aside0.mk A100
          clear A100
          obtain rfl := Option.some.inj H
          go_enter Try.func20, Try.ntmps20
          go_wp2_with (first | ((with_reducible refine gate_dst (N := 2) rfl ?_); refine box_event ?hg (N := 2) ?hd (cs := #[.int .i64 a0_0, .bool a0_1, .int .i64 a0_2, .bool a0_3, .bool a0_4, .bool a0_5, .bool a0_6, .int .i64 a0_7, .int .i64 a0_8, .slice A0_9 l0_9.length c0_9, .slice A0_10 l0_10.length c0_10, .slice A0_11 l0_11.length c0_11, .slice A0_12 l0_12.length c0_12]) (t := 27) ?hr ?_; (case hd => rfl); (case hg => rfl); (case hr => first | (go_simp; done) | (go_simp; rfl)); intro gb105 hg w11 hbox hb; have n0_ := Aside0.mk (below_step (by repeat (first | (with_reducible first | exact HB.out | apply below_alloc | apply pw_below_drewN | apply below_drew1) | exact HB.out)) hb); have n1_ := Aside0.mk (hbox); have n2_ := Aside0.mk ((by rw [hg]; exact (below_size (by repeat (first | (with_reducible first | exact HB.out | apply below_alloc | apply pw_below_drewN | apply below_drew1) | exact HB.out))) : w.heap.size ≤ gb105)); have n3_ := Aside0.mk ((by rw [hg]; exact (below_size (by repeat (first | (with_reducible first | exact HB.out | apply below_alloc | apply pw_below_drewN | apply below_drew1) | exact HB.out))) : w.heap.size ≤ gb105)); clear HB; have HB := n0_; have BK105 := n1_; have GW105 := n2_; have GE105 := n3_; clear n0_ n1_ n2_ n3_; clear hb hbox hg) | ((with_reducible refine gate_dst (N := 3) rfl ?_); refine box_event ?hg (N := 3) ?hd (cs := #[.int .i64 a1_0, .bool a1_1, .int .i64 a1_2, .bool a1_3, .bool a1_4, .bool a1_5, .bool a1_6, .int .i64 a1_7, .int .i64 a1_8, .slice A1_9 l1_9.length c1_9, .slice A1_10 l1_10.length c1_10, .slice A1_11 l1_11.length c1_11, .slice A1_12 l1_12.length c1_12]) (t := 27) ?hr ?_; (case hd => rfl); (case hg => rfl); (case hr => first | (go_simp; done) | (go_simp; rfl)); intro gb106 hg w12 hbox hb; have n0_ := Aside0.mk (blk_below (g := gb105) (o := .cells #[.int .i64 a0_0, .bool a0_1, .int .i64 a0_2, .bool a0_3, .bool a0_4, .bool a0_5, .bool a0_6, .int .i64 a0_7, .int .i64 a0_8, .slice A0_9 l0_9.length c0_9, .slice A0_10 l0_10.length c0_10, .slice A0_11 l0_11.length c0_11, .slice A0_12 l0_12.length c0_12] 27 (0, 0)) (by (with_reducible repeat (first | refine blk_drewN ?_ _ | refine blk_drew ?_ | refine blk_alloc ?_ _)); exact BK105.out) hb); have n1_ := Aside0.mk (below_step (by repeat (first | (with_reducible first | exact HB.out | apply below_alloc | apply pw_below_drewN | apply below_drew1 | refine below_set ?_ GE105.out) | exact HB.out)) hb); have n2_ := Aside0.mk (hbox); have n3_ := Aside0.mk ((by rw [hg]; exact (below_size (by repeat (first | (with_reducible first | exact HB.out | apply below_alloc | apply pw_below_drewN | apply below_drew1 | refine below_set ?_ GE105.out) | exact HB.out))) : w.heap.size ≤ gb106)); have n4_ := Aside0.mk ((by rw [hg]; exact (below_size (by repeat (first | (with_reducible first | exact HB.out | apply below_alloc | apply pw_below_drewN | apply below_drew1 | refine below_set ?_ GE105.out) | exact HB.out))) : w.heap.size ≤ gb106)); have n5_ := Aside0.mk ((by rw [hg]; exact Nat.ne_of_lt (blk_lt (g := gb105) (o := .cells #[.int .i64 a0_0, .bool a0_1, .int .i64 a0_2, .bool a0_3, .bool a0_4, .bool a0_5, .bool a0_6, .int .i64 a0_7, .int .i64 a0_8, .slice A0_9 l0_9.length c0_9, .slice A0_10 l0_10.length c0_10, .slice A0_11 l0_11.length c0_11, .slice A0_12 l0_12.length c0_12] 27 (0, 0)) (by (with_reducible repeat (first | refine blk_drewN ?_ _ | refine blk_drew ?_ | refine blk_alloc ?_ _)); exact BK105.out)) : gb105 ≠ gb106)); have n6_ := Aside0.mk ((by rw [hg]; exact Nat.ne_of_gt (blk_lt (g := gb105) (o := .cells #[.int .i64 a0_0, .bool a0_1, .int .i64 a0_2, .bool a0_3, .bool a0_4, .bool a0_5, .bool a0_6, .int .i64 a0_7, .int .i64 a0_8, .slice A0_9 l0_9.length c0_9, .slice A0_10 l0_10.length c0_10, .slice A0_11 l0_11.length c0_11, .slice A0_12 l0_12.length c0_12] 27 (0, 0)) (by (with_reducible repeat (first | refine blk_drewN ?_ _ | refine blk_drew ?_ | refine blk_alloc ?_ _)); exact BK105.out)) : gb106 ≠ gb105)); clear BK105; clear HB; have BK105 := n0_; have HB := n1_; have BK106 := n2_; have GW106 := n3_; have GE106 := n4_; have NB105_106 := n5_; have NB106_105 := n6_; clear n0_ n1_ n2_ n3_ n4_ n5_ n6_; clear hb hbox hg; have hnb13 := NB105_106.out; have hnc13 := NB106_105.out; have hcz14_0 : w12.cell? ⟨gb105, 0, none⟩ = some (.int .i64 a0_0) := (blk_cell BK105.out 0).trans rfl; have hcz14_1 : w12.cell? ⟨gb105, 1, none⟩ = some (.bool a0_1) := (blk_cell BK105.out 1).trans rfl; have hcz14_2 : w12.cell? ⟨gb105, 2, none⟩ = some (.int .i64 a0_2) := (blk_cell BK105.out 2).trans rfl; have hcz14_3 : w12.cell? ⟨gb105, 3, none⟩ = some (.bool a0_3) := (blk_cell BK105.out 3).trans rfl; have hcz14_4 : w12.cell? ⟨gb105, 4, none⟩ = some (.bool a0_4) := (blk_cell BK105.out 4).trans rfl; have hcz14_5 : w12.cell? ⟨gb105, 5, none⟩ = some (.bool a0_5) := (blk_cell BK105.out 5).trans rfl; have hcz14_6 : w12.cell? ⟨gb105, 6, none⟩ = some (.bool a0_6) := (blk_cell BK105.out 6).trans rfl; have hcz14_7 : w12.cell? ⟨gb105, 7, none⟩ = some (.int .i64 a0_7) := (blk_cell BK105.out 7).trans rfl; have hcz14_8 : w12.cell? ⟨gb105, 8, none⟩ = some (.int .i64 a0_8) := (blk_cell BK105.out 8).trans rfl; have hcz14_9 : w12.cell? ⟨gb105, 9, none⟩ = some (.slice A0_9 l0_9.length c0_9) := (blk_cell BK105.out 9).trans rfl; have hcz14_10 : w12.cell? ⟨gb105, 10, none⟩ = some (.slice A0_10 l0_10.length c0_10) := (blk_cell BK105.out 10).trans rfl; have hcz14_11 : w12.cell? ⟨gb105, 11, none⟩ = some (.slice A0_11 l0_11.length c0_11) := (blk_cell BK105.out 11).trans rfl; have hcz14_12 : w12.cell? ⟨gb105, 12, none⟩ = some (.slice A0_12 l0_12.length c0_12) := (blk_cell BK105.out 12).trans rfl; have hfz14_0 := blk_frozen BK105.out 0; have hfz14_1 := blk_frozen BK105.out 1; have hfz14_2 := blk_frozen BK105.out 2; have hfz14_3 := blk_frozen BK105.out 3; have hfz14_4 := blk_frozen BK105.out 4; have hfz14_5 := blk_frozen BK105.out 5; have hfz14_6 := blk_frozen BK105.out 6; have hfz14_7 := blk_frozen BK105.out 7; have hfz14_8 := blk_frozen BK105.out 8; have hfz14_9 := blk_frozen BK105.out 9; have hfz14_10 := blk_frozen BK105.out 10; have hfz14_11 := blk_frozen BK105.out 11; have hfz14_12 := blk_frozen BK105.out 12; have hcz15_0 : w12.cell? ⟨gb106, 0, none⟩ = some (.int .i64 a1_0) := (blk_cell BK106.out 0).trans rfl; have hcz15_1 : w12.cell? ⟨gb106, 1, none⟩ = some (.bool a1_1) := (blk_cell BK106.out 1).trans rfl; have hcz15_2 : w12.cell? ⟨gb106, 2, none⟩ = some (.int .i64 a1_2) := (blk_cell BK106.out 2).trans rfl; have hcz15_3 : w12.cell? ⟨gb106, 3, none⟩ = some (.bool a1_3) := (blk_cell BK106.out 3).trans rfl; have hcz15_4 : w12.cell? ⟨gb106, 4, none⟩ = some (.bool a1_4) := (blk_cell BK106.out 4).trans rfl; have hcz15_5 : w12.cell? ⟨gb106, 5, none⟩ = some (.bool a1_5) := (blk_cell BK106.out 5).trans rfl; have hcz15_6 : w12.cell? ⟨gb106, 6, none⟩ = some (.bool a1_6) := (blk_cell BK106.out 6).trans rfl; have hcz15_7 : w12.cell? ⟨gb106, 7, none⟩ = some (.int .i64 a1_7) := (blk_cell BK106.out 7).trans rfl; have hcz15_8 : w12.cell? ⟨gb106, 8, none⟩ = some (.int .i64 a1_8) := (blk_cell BK106.out 8).trans rfl; have hcz15_9 : w12.cell? ⟨gb106, 9, none⟩ = some (.slice A1_9 l1_9.length c1_9) := (blk_cell BK106.out 9).trans rfl; have hcz15_10 : w12.cell? ⟨gb106, 10, none⟩ = some (.slice A1_10 l1_10.length c1_10) := (blk_cell BK106.out 10).trans rfl; have hcz15_11 : w12.cell? ⟨gb106, 11, none⟩ = some (.slice A1_11 l1_11.length c1_11) := (blk_cell BK106.out 11).trans rfl; have hcz15_12 : w12.cell? ⟨gb106, 12, none⟩ = some (.slice A1_12 l1_12.length c1_12) := (blk_cell BK106.out 12).trans rfl; have hfz15_0 := blk_frozen BK106.out 0; have hfz15_1 := blk_frozen BK106.out 1; have hfz15_2 := blk_frozen BK106.out 2; have hfz15_3 := blk_frozen BK106.out 3; have hfz15_4 := blk_frozen BK106.out 4; have hfz15_5 := blk_frozen BK106.out 5; have hfz15_6 := blk_frozen BK106.out 6; have hfz15_7 := blk_frozen BK106.out 7; have hfz15_8 := blk_frozen BK106.out 8; have hfz15_9 := blk_frozen BK106.out 9; have hfz15_10 := blk_frozen BK106.out 10; have hfz15_11 := blk_frozen BK106.out 11; have hfz15_12 := blk_frozen BK106.out 12) | (go_at_call 31; (with_reducible refine (wimplelaw0_SameQuestions.calls k _ _ l0_9 _ _ l1_9 true _ ?side1 ?side2 ?side3 ?side4 A4.out).mono ?_); (case side1 => repeat (first | exact (Kd.C_below HR0_9.out HB.out) | (with_reducible refine Kd.C_alloc ?_ _) | (with_reducible refine Kd.C_drewN ?_ _) | (with_reducible refine Kd.C_drew ?_))); (case side2 => exact HC0_9.out); (case side3 => repeat (first | exact (Kd.C_below HR1_9.out HB.out) | (with_reducible refine Kd.C_alloc ?_ _) | (with_reducible refine Kd.C_drewN ?_ _) | (with_reducible refine Kd.C_drew ?_))); (case side4 => exact HC1_9.out); rintro e w' ⟨rfl, ⟨nd, rfl⟩⟩) | (go_at_call 44; (with_reducible refine (wimplelaw0_SameRrs.calls k _ _ l0_10 _ _ l1_10 true _ ?side1 ?side2 ?side3 ?side4 A6.out).mono ?_); (case side1 => repeat (first | exact (Kd.C_below HR0_10.out (by repeat (first | (with_reducible first | exact HB.out | apply below_alloc | apply pw_below_drewN | apply below_drew1 | refine below_set ?_ GE105.out | refine below_set ?_ GE106.out) | exact HB.out))) | (with_reducible refine Kd.C_alloc ?_ _) | (with_reducible refine Kd.C_drewN ?_ _) | (with_reducible refine Kd.C_drew ?_))); (case side2 => exact HC0_10.out); (case side3 => repeat (first | exact (Kd.C_below HR1_10.out (by repeat (first | (with_reducible first | exact HB.out | apply below_alloc | apply pw_below_drewN | apply below_drew1 | refine below_set ?_ GE105.out | refine below_set ?_ GE106.out) | exact HB.out))) | (with_reducible refine Kd.C_alloc ?_ _) | (with_reducible refine Kd.C_drewN ?_ _) | (with_reducible refine Kd.C_drew ?_))); (case side4 => exact HC1_10.out); rintro e w' ⟨rfl, ⟨nd, rfl⟩⟩) | (go_at_call 44; (with_reducible refine (wimplelaw0_SameRrs.calls k _ _ l0_11 _ _ l1_11 true _ ?side1 ?side2 ?side3 ?side4 A8.out).mono ?_); (case side1 => repeat (first | exact (Kd.C_below HR0_11.out (by repeat (first | (with_reducible first | exact HB.out | apply below_alloc | apply pw_below_drewN | apply below_drew1 | refine below_set ?_ GE105.out | refine below_set ?_ GE106.out) | exact HB.out))) | (with_reducible refine Kd.C_alloc ?_ _) | (with_reducible refine Kd.C_drewN ?_ _) | (with_reducible refine Kd.C_drew ?_))); (case side2 => exact HC0_11.out); (case side3 => repeat (first | exact (Kd.C_below HR1_11.out (by repeat (first | (with_reducible first | exact HB.out | apply below_alloc | apply pw_below_drewN | apply below_drew1 | refine below_set ?_ GE105.out | refine below_set ?_ GE106.out) | exact HB.out))) | (with_reducible refine Kd.C_alloc ?_ _) | (with_reducible refine Kd.C_drewN ?_ _) | (with_reducible refine Kd.C_drew ?_))); (case side4 => exact HC1_11.out); rintro e w' ⟨rfl, ⟨nd, rfl⟩⟩) | (go_at_call 44; (with_reducible refine (wimplelaw0_SameRrs.calls k _ _ l0_12 _ _ l1_12 t110 _ ?side1 ?side2 ?side3 ?side4 A10.out).mono ?_); (case side1 => repeat (first | exact (Kd.C_below HR0_12.out (by repeat (first | (with_reducible first | exact HB.out | apply below_alloc | apply pw_below_drewN | apply below_drew1 | refine below_set ?_ GE105.out | refine below_set ?_ GE106.out) | exact HB.out))) | (with_reducible refine Kd.C_alloc ?_ _) | (with_reducible refine Kd.C_drewN ?_ _) | (with_reducible refine Kd.C_drew ?_))); (case side2 => exact HC0_12.out); (case side3 => repeat (first | exact (Kd.C_below HR1_12.out (by repeat (first | (with_reducible first | exact HB.out | apply below_alloc | apply pw_below_drewN | apply below_drew1 | refine below_set ?_ GE105.out | refine below_set ?_ GE106.out) | exact HB.out))) | (with_reducible refine Kd.C_alloc ?_ _) | (with_reducible refine Kd.C_drewN ?_ _) | (with_reducible refine Kd.C_drew ?_))); (case side4 => exact HC1_12.out); rintro e w' ⟨rfl, ⟨nd, rfl⟩⟩))
          go_ret
          exact ⟨by first | rfl | (simp [errW_none, errW_some] <;> rfl) | (simp [*, errW_none, errW_some] <;> rfl), by repeat (first | (with_reducible first | exact HB.out | apply below_alloc | apply pw_below_drewN | apply below_drew1 | refine below_set ?_ GE105.out | refine below_set ?_ GE106.out) | exact HB.out)⟩
        · replace c9 := Bool.eq_false_iff.mpr c9
          subst c9
          have H1 : (some false) = some r := by rw [if_neg (show ¬ (false = true) by decide)] at H; exact H
          clear H
          have H := H1
          clear H1
          obtain rfl := Option.some.inj H
          go_enter Try.func20, Try.ntmps20
          go_wp2_with (first | ((with_reducible refine gate_dst (N := 2) rfl ?_); refine box_event ?hg (N := 2) ?hd (cs := #[.int .i64 a0_0, .bool a0_1, .int .i64 a0_2, .bool a0_3, .bool a0_4, .bool a0_5, .bool a0_6, .int .i64 a0_7, .int .i64 a0_8, .slice A0_9 l0_9.length c0_9, .slice A0_10 l0_10.length c0_10, .slice A0_11 l0_11.length c0_11, .slice A0_12 l0_12.length c0_12]) (t := 27) ?hr ?_; (case hd => rfl); (case hg => rfl); (case hr => first | (go_simp; done) | (go_simp; rfl)); intro gb105 hg w16 hbox hb; have n0_ := Aside0.mk (below_step (by repeat (first | (with_reducible first | exact HB.out | apply below_alloc | apply pw_below_drewN | apply below_drew1) | exact HB.out)) hb); have n1_ := Aside0.mk (hbox); have n2_ := Aside0.mk ((by rw [hg]; exact (below_size (by repeat (first | (with_reducible first | exact HB.out | apply below_alloc | apply pw_below_drewN | apply below_drew1) | exact HB.out))) : w.heap.size ≤ gb105)); have n3_ := Aside0.mk ((by rw [hg]; exact (below_size (by repeat (first | (with_reducible first | exact HB.out | apply below_alloc | apply pw_below_drewN | apply below_drew1) | exact HB.out))) : w.heap.size ≤ gb105)); clear HB; have HB := n0_; have BK105 := n1_; have GW105 := n2_; have GE105 := n3_; clear n0_ n1_ n2_ n3_; clear hb hbox hg) | ((with_reducible refine gate_dst (N := 3) rfl ?_); refine box_event ?hg (N := 3) ?hd (cs := #[.int .i64 a1_0, .bool a1_1, .int .i64 a1_2, .bool a1_3, .bool a1_4, .bool a1_5, .bool a1_6, .int .i64 a1_7, .int .i64 a1_8, .slice A1_9 l1_9.length c1_9, .slice A1_10 l1_10.length c1_10, .slice A1_11 l1_11.length c1_11, .slice A1_12 l1_12.length c1_12]) (t := 27) ?hr ?_; (case hd => rfl); (case hg => rfl); (case hr => first | (go_simp; done) | (go_simp; rfl)); intro gb106 hg w17 hbox hb; have n0_ := Aside0.mk (blk_below (g := gb105) (o := .cells #[.int .i64 a0_0, .bool a0_1, .int .i64 a0_2, .bool a0_3, .bool a0_4, .bool a0_5, .bool a0_6, .int .i64 a0_7, .int .i64 a0_8, .slice A0_9 l0_9.length c0_9, .slice A0_10 l0_10.length c0_10, .slice A0_11 l0_11.length c0_11, .slice A0_12 l0_12.length c0_12] 27 (0, 0)) (by (with_reducible repeat (first | refine blk_drewN ?_ _ | refine blk_drew ?_ | refine blk_alloc ?_ _)); exact BK105.out) hb); have n1_ := Aside0.mk (below_step (by repeat (first | (with_reducible first | exact HB.out | apply below_alloc | apply pw_below_drewN | apply below_drew1 | refine below_set ?_ GE105.out) | exact HB.out)) hb); have n2_ := Aside0.mk (hbox); have n3_ := Aside0.mk ((by rw [hg]; exact (below_size (by repeat (first | (with_reducible first | exact HB.out | apply below_alloc | apply pw_below_drewN | apply below_drew1 | refine below_set ?_ GE105.out) | exact HB.out))) : w.heap.size ≤ gb106)); have n4_ := Aside0.mk ((by rw [hg]; exact (below_size (by repeat (first | (with_reducible first | exact HB.out | apply below_alloc | apply pw_below_drewN | apply below_drew1 | refine below_set ?_ GE105.out) | exact HB.out))) : w.heap.size ≤ gb106)); have n5_ := Aside0.mk ((by rw [hg]; exact Nat.ne_of_lt (blk_lt (g := gb105) (o := .cells #[.int .i64 a0_0, .bool a0_1, .int .i64 a0_2, .bool a0_3, .bool a0_4, .bool a0_5, .bool a0_6, .int .i64 a0_7, .int .i64 a0_8, .slice A0_9 l0_9.length c0_9, .slice A0_10 l0_10.length c0_10, .slice A0_11 l0_11.length c0_11, .slice A0_12 l0_12.length c0_12] 27 (0, 0)) (by (with_reducible repeat (first | refine blk_drewN ?_ _ | refine blk_drew ?_ | refine blk_alloc ?_ _)); exact BK105.out)) : gb105 ≠ gb106)); have n6_ := Aside0.mk ((by rw [hg]; exact Nat.ne_of_gt (blk_lt (g := gb105) (o := .cells #[.int .i64 a0_0, .bool a0_1, .int .i64 a0_2, .bool a0_3, .bool a0_4, .bool a0_5, .bool a0_6, .int .i64 a0_7, .int .i64 a0_8, .slice A0_9 l0_9.length c0_9, .slice A0_10 l0_10.length c0_10, .slice A0_11 l0_11.length c0_11, .slice A0_12 l0_12.length c0_12] 27 (0, 0)) (by (with_reducible repeat (first | refine blk_drewN ?_ _ | refine blk_drew ?_ | refine blk_alloc ?_ _)); exact BK105.out)) : gb106 ≠ gb105)); clear BK105; clear HB; have BK105 := n0_; have HB := n1_; have BK106 := n2_; have GW106 := n3_; have GE106 := n4_; have NB105_106 := n5_; have NB106_105 := n6_; clear n0_ n1_ n2_ n3_ n4_ n5_ n6_; clear hb hbox hg; have hnb18 := NB105_106.out; have hnc18 := NB106_105.out; (try clear hcz14_0 hcz14_1 hcz14_2 hcz14_3 hcz14_4 hcz14_5 hcz14_6 hcz14_7 hcz14_8 hcz14_9 hcz14_10 hcz14_11 hcz14_12 hfz14_0 hfz14_1 hfz14_2 hfz14_3 hfz14_4 hfz14_5 hfz14_6 hfz14_7 hfz14_8 hfz14_9 hfz14_10 hfz14_11 hfz14_12); (try clear hcz15_0 hcz15_1 hcz15_2 hcz15_3 hcz15_4 hcz15_5 hcz15_6 hcz15_7 hcz15_8 hcz15_9 hcz15_10 hcz15_11 hcz15_12 hfz15_0 hfz15_1 hfz15_2 hfz15_3 hfz15_4 hfz15_5 hfz15_6 hfz15_7 hfz15_8 hfz15_9 hfz15_10 hfz15_11 hfz15_12); have hcz19_0 : w17.cell? ⟨gb105, 0, none⟩ = some (.int .i64 a0_0) := (blk_cell BK105.out 0).trans rfl; have hcz19_1 : w17.cell? ⟨gb105, 1, none⟩ = some (.bool a0_1) := (blk_cell BK105.out 1).trans rfl; have hcz19_2 : w17.cell? ⟨gb105, 2, none⟩ = some (.int .i64 a0_2) := (blk_cell BK105.out 2).trans rfl; have hcz19_3 : w17.cell? ⟨gb105, 3, none⟩ = some (.bool a0_3) := (blk_cell BK105.out 3).trans rfl; have hcz19_4 : w17.cell? ⟨gb105, 4, none⟩ = some (.bool a0_4) := (blk_cell BK105.out 4).trans rfl; have hcz19_5 : w17.cell? ⟨gb105, 5, none⟩ = some (.bool a0_5) := (blk_cell BK105.out 5).trans rfl; have hcz19_6 : w17.cell? ⟨gb105, 6, none⟩ = some (.bool a0_6) := (blk_cell BK105.out 6).trans rfl; have hcz19_7 : w17.cell? ⟨gb105, 7, none⟩ = some (.int .i64 a0_7) := (blk_cell BK105.out 7).trans rfl; have hcz19_8 : w17.cell? ⟨gb105, 8, none⟩ = some (.int .i64 a0_8) := (blk_cell BK105.out 8).trans rfl; have hcz19_9 : w17.cell? ⟨gb105, 9, none⟩ = some (.slice A0_9 l0_9.length c0_9) := (blk_cell BK105.out 9).trans rfl; have hcz19_10 : w17.cell? ⟨gb105, 10, none⟩ = some (.slice A0_10 l0_10.length c0_10) := (blk_cell BK105.out 10).trans rfl; have hcz19_11 : w17.cell? ⟨gb105, 11, none⟩ = some (.slice A0_11 l0_11.length c0_11) := (blk_cell BK105.out 11).trans rfl; have hcz19_12 : w17.cell? ⟨gb105, 12, none⟩ = some (.slice A0_12 l0_12.length c0_12) := (blk_cell BK105.out 12).trans rfl; have hfz19_0 := blk_frozen BK105.out 0; have hfz19_1 := blk_frozen BK105.out 1; have hfz19_2 := blk_frozen BK105.out 2; have hfz19_3 := blk_frozen BK105.out 3; have hfz19_4 := blk_frozen BK105.out 4; have hfz19_5 := blk_frozen BK105.out 5; have hfz19_6 := blk_frozen BK105.out 6; have hfz19_7 := blk_frozen BK105.out 7; have hfz19_8 := blk_frozen BK105.out 8; have hfz19_9 := blk_frozen BK105.out 9; have hfz19_10 := blk_frozen BK105.out 10; have hfz19_11 := blk_frozen BK105.out 11; have hfz19_12 := blk_frozen BK105.out 12; (try clear hcz14_0 hcz14_1 hcz14_2 hcz14_3 hcz14_4 hcz14_5 hcz14_6 hcz14_7 hcz14_8 hcz14_9 hcz14_10 hcz14_11 hcz14_12 hfz14_0 hfz14_1 hfz14_2 hfz14_3 hfz14_4 hfz14_5 hfz14_6 hfz14_7 hfz14_8 hfz14_9 hfz14_10 hfz14_11 hfz14_12); (try clear hcz15_0 hcz15_1 hcz15_2 hcz15_3 hcz15_4 hcz15_5 hcz15_6 hcz15_7 hcz15_8 hcz15_9 hcz15_10 hcz15_11 hcz15_12 hfz15_0 hfz15_1 hfz15_2 hfz15_3 hfz15_4 hfz15_5 hfz15_6 hfz15_7 hfz15_8 hfz15_9 hfz15_10 hfz15_11 hfz15_12); have hcz20_0 : w17.cell? ⟨gb106, 0, none⟩ = some (.int .i64 a1_0) := (blk_cell BK106.out 0).trans rfl; have hcz20_1 : w17.cell? ⟨gb106, 1, none⟩ = some (.bool a1_1) := (blk_cell BK106.out 1).trans rfl; have hcz20_2 : w17.cell? ⟨gb106, 2, none⟩ = some (.int .i64 a1_2) := (blk_cell BK106.out 2).trans rfl; have hcz20_3 : w17.cell? ⟨gb106, 3, none⟩ = some (.bool a1_3) := (blk_cell BK106.out 3).trans rfl; have hcz20_4 : w17.cell? ⟨gb106, 4, none⟩ = some (.bool a1_4) := (blk_cell BK106.out 4).trans rfl; have hcz20_5 : w17.cell? ⟨gb106, 5, none⟩ = some (.bool a1_5) := (blk_cell BK106.out 5).trans rfl; have hcz20_6 : w17.cell? ⟨gb106, 6, none⟩ = some (.bool a1_6) := (blk_cell BK106.out 6).trans rfl; have hcz20_7 : w17.cell? ⟨gb106, 7, none⟩ = some (.int .i64 a1_7) := (blk_cell BK106.out 7).trans rfl; have hcz20_8 : w17.cell? ⟨gb106, 8, none⟩ = some (.int .i64 a1_8) := (blk_cell BK106.out 8).trans rfl; have hcz20_9 : w17.cell? ⟨gb106, 9, none⟩ = some (.slice A1_9 l1_9.length c1_9) := (blk_cell BK106.out 9).trans rfl; have hcz20_10 : w17.cell? ⟨gb106, 10, none⟩ = some (.slice A1_10 l1_10.length c1_10) := (blk_cell BK106.out 10).trans rfl; have hcz20_11 : w17.cell? ⟨gb106, 11, none⟩ = some (.slice A1_11 l1_11.length c1_11) := (blk_cell BK106.out 11).trans rfl; have hcz20_12 : w17.cell? ⟨gb106, 12, none⟩ = some (.slice A1_12 l1_12.length c1_12) := (blk_cell BK106.out 12).trans rfl; have hfz20_0 := blk_frozen BK106.out 0; have hfz20_1 := blk_frozen BK106.out 1; have hfz20_2 := blk_frozen BK106.out 2; have hfz20_3 := blk_frozen BK106.out 3; have hfz20_4 := blk_frozen BK106.out 4; have hfz20_5 := blk_frozen BK106.out 5; have hfz20_6 := blk_frozen BK106.out 6; have hfz20_7 := blk_frozen BK106.out 7; have hfz20_8 := blk_frozen BK106.out 8; have hfz20_9 := blk_frozen BK106.out 9; have hfz20_10 := blk_frozen BK106.out 10; have hfz20_11 := blk_frozen BK106.out 11; have hfz20_12 := blk_frozen BK106.out 12) | (go_at_call 31; (with_reducible refine (wimplelaw0_SameQuestions.calls k _ _ l0_9 _ _ l1_9 true _ ?side1 ?side2 ?side3 ?side4 A4.out).mono ?_); (case side1 => repeat (first | exact (Kd.C_below HR0_9.out HB.out) | (with_reducible refine Kd.C_alloc ?_ _) | (with_reducible refine Kd.C_drewN ?_ _) | (with_reducible refine Kd.C_drew ?_))); (case side2 => exact HC0_9.out); (case side3 => repeat (first | exact (Kd.C_below HR1_9.out HB.out) | (with_reducible refine Kd.C_alloc ?_ _) | (with_reducible refine Kd.C_drewN ?_ _) | (with_reducible refine Kd.C_drew ?_))); (case side4 => exact HC1_9.out); rintro e w' ⟨rfl, ⟨nd, rfl⟩⟩) | (go_at_call 44; (with_reducible refine (wimplelaw0_SameRrs.calls k _ _ l0_10 _ _ l1_10 true _ ?side1 ?side2 ?side3 ?side4 A6.out).mono ?_); (case side1 => repeat (first | exact (Kd.C_below HR0_10.out (by repeat (first | (with_reducible first | exact HB.out | apply below_alloc | apply pw_below_drewN | apply below_drew1 | refine below_set ?_ GE105.out | refine below_set ?_ GE106.out) | exact HB.out))) | (with_reducible refine Kd.C_alloc ?_ _) | (with_reducible refine Kd.C_drewN ?_ _) | (with_reducible refine Kd.C_drew ?_))); (case side2 => exact HC0_10.out); (case side3 => repeat (first | exact (Kd.C_below HR1_10.out (by repeat (first | (with_reducible first | exact HB.out | apply below_alloc | apply pw_below_drewN | apply below_drew1 | refine below_set ?_ GE105.out | refine below_set ?_ GE106.out) | exact HB.out))) | (with_reducible refine Kd.C_alloc ?_ _) | (with_reducible refine Kd.C_drewN ?_ _) | (with_reducible refine Kd.C_drew ?_))); (case side4 => exact HC1_10.out); rintro e w' ⟨rfl, ⟨nd, rfl⟩⟩) | (go_at_call 44; (with_reducible refine (wimplelaw0_SameRrs.calls k _ _ l0_11 _ _ l1_11 false _ ?side1 ?side2 ?side3 ?side4 A8.out).mono ?_); (case side1 => repeat (first | exact (Kd.C_below HR0_11.out (by repeat (first | (with_reducible first | exact HB.out | apply below_alloc | apply pw_below_drewN | apply below_drew1 | refine below_set ?_ GE105.out | refine below_set ?_ GE106.out) | exact HB.out))) | (with_reducible refine Kd.C_alloc ?_ _) | (with_reducible refine Kd.C_drewN ?_ _) | (with_reducible refine Kd.C_drew ?_))); (case side2 => exact HC0_11.out); (case side3 => repeat (first | exact (Kd.C_below HR1_11.out (by repeat (first | (with_reducible first | exact HB.out | apply below_alloc | apply pw_below_drewN | apply below_drew1 | refine below_set ?_ GE105.out | refine below_set ?_ GE106.out) | exact HB.out))) | (with_reducible refine Kd.C_alloc ?_ _) | (with_reducible refine Kd.C_drewN ?_ _) | (with_reducible refine Kd.C_drew ?_))); (case side4 => exact HC1_11.out); rintro e w' ⟨rfl, ⟨nd, rfl⟩⟩))
          go_ret
          exact ⟨by first | rfl | (simp [errW_none, errW_some] <;> rfl) | (simp [*, errW_none, errW_some] <;> rfl), by repeat (first | (with_reducible first | exact HB.out | apply below_alloc | apply pw_below_drewN | apply below_drew1 | refine below_set ?_ GE105.out | refine below_set ?_ GE106.out) | exact HB.out)⟩
      · replace c7 := Bool.eq_false_iff.mpr c7
        subst c7
        have H1 : (some false) = some r := by rw [if_neg (show ¬ (false = true) by decide)] at H; exact H
        clear H
        have H := H1
        clear H1
        obtain rfl := Option.some.inj H
        go_enter Try.func20, Try.ntmps20
        go_wp2_with (first | ((with_reducible refine gate_dst (N := 2) rfl ?_); refine box_event ?hg (N := 2) ?hd (cs := #[.int .i64 a0_0, .bool a0_1, .int .i64 a0_2, .bool a0_3, .bool a0_4, .bool a0_5, .bool a0_6, .int .i64 a0_7, .int .i64 a0_8, .slice A0_9 l0_9.length c0_9, .slice A0_10 l0_10.length c0_10, .slice A0_11 l0_11.length c0_11, .slice A0_12 l0_12.length c0_12]) (t := 27) ?hr ?_; (case hd => rfl); (case hg => rfl); (case hr => first | (go_simp; done) | (go_simp; rfl)); intro gb105 hg w21 hbox hb; have n0_ := Aside0.mk (below_step (by repeat (first | (with_reducible first | exact HB.out | apply below_alloc | apply pw_below_drewN | apply below_drew1) | exact HB.out)) hb); have n1_ := Aside0.mk (hbox); have n2_ := Aside0.mk ((by rw [hg]; exact (below_size (by repeat (first | (with_reducible first | exact HB.out | apply below_alloc | apply pw_below_drewN | apply below_drew1) | exact HB.out))) : w.heap.size ≤ gb105)); have n3_ := Aside0.mk ((by rw [hg]; exact (below_size (by repeat (first | (with_reducible first | exact HB.out | apply below_alloc | apply pw_below_drewN | apply below_drew1) | exact HB.out))) : w.heap.size ≤ gb105)); clear HB; have HB := n0_; have BK105 := n1_; have GW105 := n2_; have GE105 := n3_; clear n0_ n1_ n2_ n3_; clear hb hbox hg) | ((with_reducible refine gate_dst (N := 3) rfl ?_); refine box_event ?hg (N := 3) ?hd (cs := #[.int .i64 a1_0, .bool a1_1, .int .i64 a1_2, .bool a1_3, .bool a1_4, .bool a1_5, .bool a1_6, .int .i64 a1_7, .int .i64 a1_8, .slice A1_9 l1_9.length c1_9, .slice A1_10 l1_10.length c1_10, .slice A1_11 l1_11.length c1_11, .slice A1_12 l1_12.length c1_12]) (t := 27) ?hr ?_; (case hd => rfl); (case hg => rfl); (case hr => first | (go_simp; done) | (go_simp; rfl)); intro gb106 hg w22 hbox hb; have n0_ := Aside0.mk (blk_below (g := gb105) (o := .cells #[.int .i64 a0_0, .bool a0_1, .int .i64 a0_2, .bool a0_3, .bool a0_4, .bool a0_5, .bool a0_6, .int .i64 a0_7, .int .i64 a0_8, .slice A0_9 l0_9.length c0_9, .slice A0_10 l0_10.length c0_10, .slice A0_11 l0_11.length c0_11, .slice A0_12 l0_12.length c0_12] 27 (0, 0)) (by (with_reducible repeat (first | refine blk_drewN ?_ _ | refine blk_drew ?_ | refine blk_alloc ?_ _)); exact BK105.out) hb); have n1_ := Aside0.mk (below_step (by repeat (first | (with_reducible first | exact HB.out | apply below_alloc | apply pw_below_drewN | apply below_drew1 | refine below_set ?_ GE105.out) | exact HB.out)) hb); have n2_ := Aside0.mk (hbox); have n3_ := Aside0.mk ((by rw [hg]; exact (below_size (by repeat (first | (with_reducible first | exact HB.out | apply below_alloc | apply pw_below_drewN | apply below_drew1 | refine below_set ?_ GE105.out) | exact HB.out))) : w.heap.size ≤ gb106)); have n4_ := Aside0.mk ((by rw [hg]; exact (below_size (by repeat (first | (with_reducible first | exact HB.out | apply below_alloc | apply pw_below_drewN | apply below_drew1 | refine below_set ?_ GE105.out) | exact HB.out))) : w.heap.size ≤ gb106)); have n5_ := Aside0.mk ((by rw [hg]; exact Nat.ne_of_lt (blk_lt (g := gb105) (o := .cells #[.int .i64 a0_0, .bool a0_1, .int .i64 a0_2, .bool a0_3, .bool a0_4, .bool a0_5, .bool a0_6, .int .i64 a0_7, .int .i64 a0_8, .slice A0_9 l0_9.length c0_9, .slice A0_10 l0_10.length c0_10, .slice A0_11 l0_11.length c0_11, .slice A0_12 l0_12.length c0_12] 27 (0, 0)) (by (with_reducible repeat (first | refine blk_drewN ?_ _ | refine blk_drew ?_ | refine blk_alloc ?_ _)); exact BK105.out)) : gb105 ≠ gb106)); have n6_ := Aside0.mk ((by rw [hg]; exact Nat.ne_of_gt (blk_lt (g := gb105) (o := .cells #[.int .i64 a0_0, .bool a0_1, .int .i64 a0_2, .bool a0_3, .bool a0_4, .bool a0_5, .bool a0_6, .int .i64 a0_7, .int .i64 a0_8, .slice A0_9 l0_9.length c0_9, .slice A0_10 l0_10.length c0_10, .slice A0_11 l0_11.length c0_11, .slice A0_12 l0_12.length c0_12] 27 (0, 0)) (by (with_reducible repeat (first | refine blk_drewN ?_ _ | refine blk_drew ?_ | refine blk_alloc ?_ _)); exact BK105.out)) : gb106 ≠ gb105)); clear BK105; clear HB; have BK105 := n0_; have HB := n1_; have BK106 := n2_; have GW106 := n3_; have GE106 := n4_; have NB105_106 := n5_; have NB106_105 := n6_; clear n0_ n1_ n2_ n3_ n4_ n5_ n6_; clear hb hbox hg; have hnb23 := NB105_106.out; have hnc23 := NB106_105.out; (try clear hcz14_0 hcz14_1 hcz14_2 hcz14_3 hcz14_4 hcz14_5 hcz14_6 hcz14_7 hcz14_8 hcz14_9 hcz14_10 hcz14_11 hcz14_12 hfz14_0 hfz14_1 hfz14_2 hfz14_3 hfz14_4 hfz14_5 hfz14_6 hfz14_7 hfz14_8 hfz14_9 hfz14_10 hfz14_11 hfz14_12); (try clear hcz15_0 hcz15_1 hcz15_2 hcz15_3 hcz15_4 hcz15_5 hcz15_6 hcz15_7 hcz15_8 hcz15_9 hcz15_10 hcz15_11 hcz15_12 hfz15_0 hfz15_1 hfz15_2 hfz15_3 hfz15_4 hfz15_5 hfz15_6 hfz15_7 hfz15_8 hfz15_9 hfz15_10 hfz15_11 hfz15_12); (try clear hcz19_0 hcz19_1 hcz19_2 hcz19_3 hcz19_4 hcz19_5 hcz19_6 hcz19_7 hcz19_8 hcz19_9 hcz19_10 hcz19_11 hcz19_12 hfz19_0 hfz19_1 hfz19_2 hfz19_3 hfz19_4 hfz19_5 hfz19_6 hfz19_7 hfz19_8 hfz19_9 hfz19_10 hfz19_11 hfz19_12); (try clear hcz20_0 hcz20_1 hcz20_2 hcz20_3 hcz20_4 hcz20_5 hcz20_6 hcz20_7 hcz20_8 hcz20_9 hcz20_10 hcz20_11 hcz20_12 hfz20_0 hfz20_1 hfz20_2 hfz20_3 hfz20_4 hfz20_5 hfz20_6 hfz20_7 hfz20_8 hfz20_9 hfz20_10 hfz20_11 hfz20_12); have hcz24_0 : w22.cell? ⟨gb105, 0, none⟩ = some (.int .i64 a0_0) := (blk_cell BK105.out 0).trans rfl; have hcz24_1 : w22.cell? ⟨gb105, 1, none⟩ = some (.bool a0_1) := (blk_cell BK105.out 1).trans rfl; have hcz24_2 : w22.cell? ⟨gb105, 2, none⟩ = some (.int .i64 a0_2) := (blk_cell BK105.out 2).trans rfl; have hcz24_3 : w22.cell? ⟨gb105, 3, none⟩ = some (.bool a0_3) := (blk_cell BK105.out 3).trans rfl; have hcz24_4 : w22.cell? ⟨gb105, 4, none⟩ = some (.bool a0_4) := (blk_cell BK105.out 4).trans rfl; have hcz24_5 : w22.cell? ⟨gb105, 5, none⟩ = some (.bool a0_5) := (blk_cell BK105.out 5).trans rfl; have hcz24_6 : w22.cell? ⟨gb105, 6, none⟩ = some (.bool a0_6) := (blk_cell BK105.out 6).trans rfl; have hcz24_7 : w22.cell? ⟨gb105, 7, none⟩ = some (.int .i64 a0_7) := (blk_cell BK105.out 7).trans rfl; have hcz24_8 : w22.cell? ⟨gb105, 8, none⟩ = some (.int .i64 a0_8) := (blk_cell BK105.out 8).trans rfl; have hcz24_9 : w22.cell? ⟨gb105, 9, none⟩ = some (.slice A0_9 l0_9.length c0_9) := (blk_cell BK105.out 9).trans rfl; have hcz24_10 : w22.cell? ⟨gb105, 10, none⟩ = some (.slice A0_10 l0_10.length c0_10) := (blk_cell BK105.out 10).trans rfl; have hcz24_11 : w22.cell? ⟨gb105, 11, none⟩ = some (.slice A0_11 l0_11.length c0_11) := (blk_cell BK105.out 11).trans rfl; have hcz24_12 : w22.cell? ⟨gb105, 12, none⟩ = some (.slice A0_12 l0_12.length c0_12) := (blk_cell BK105.out 12).trans rfl; have hfz24_0 := blk_frozen BK105.out 0; have hfz24_1 := blk_frozen BK105.out 1; have hfz24_2 := blk_frozen BK105.out 2; have hfz24_3 := blk_frozen BK105.out 3; have hfz24_4 := blk_frozen BK105.out 4; have hfz24_5 := blk_frozen BK105.out 5; have hfz24_6 := blk_frozen BK105.out 6; have hfz24_7 := blk_frozen BK105.out 7; have hfz24_8 := blk_frozen BK105.out 8; have hfz24_9 := blk_frozen BK105.out 9; have hfz24_10 := blk_frozen BK105.out 10; have hfz24_11 := blk_frozen BK105.out 11; have hfz24_12 := blk_frozen BK105.out 12; (try clear hcz14_0 hcz14_1 hcz14_2 hcz14_3 hcz14_4 hcz14_5 hcz14_6 hcz14_7 hcz14_8 hcz14_9 hcz14_10 hcz14_11 hcz14_12 hfz14_0 hfz14_1 hfz14_2 hfz14_3 hfz14_4 hfz14_5 hfz14_6 hfz14_7 hfz14_8 hfz14_9 hfz14_10 hfz14_11 hfz14_12); (try clear hcz15_0 hcz15_1 hcz15_2 hcz15_3 hcz15_4 hcz15_5 hcz15_6 hcz15_7 hcz15_8 hcz15_9 hcz15_10 hcz15_11 hcz15_12 hfz15_0 hfz15_1 hfz15_2 hfz15_3 hfz15_4 hfz15_5 hfz15_6 hfz15_7 hfz15_8 hfz15_9 hfz15_10 hfz15_11 hfz15_12); (try clear hcz19_0 hcz19_1 hcz19_2 hcz19_3 hcz19_4 hcz19_5 hcz19_6 hcz19_7 hcz19_8 hcz19_9 hcz19_10 hcz19_11 hcz19_12 hfz19_0 hfz19_1 hfz19_2 hfz19_3 hfz19_4 hfz19_5 hfz19_6 hfz19_7 hfz19_8 hfz19_9 hfz19_10 hfz19_11 hfz19_12); (try clear hcz20_0 hcz20_1 hcz20_2 hcz20_3 hcz20_4 hcz20_5 hcz20_6 hcz20_7 hcz20_8 hcz20_9 hcz20_10 hcz20_11 hcz20_12 hfz20_0 hfz20_1 hfz20_2 hfz20_3 hfz20_4 hfz20_5 hfz20_6 hfz20_7 hfz20_8 hfz20_9 hfz20_10 hfz20_11 hfz20_12); have hcz25_0 : w22.cell? ⟨gb106, 0, none⟩ = some (.int .i64 a1_0) := (blk_cell BK106.out 0).trans rfl; have hcz25_1 : w22.cell? ⟨gb106, 1, none⟩ = some (.bool a1_1) := (blk_cell BK106.out 1).trans rfl; have hcz25_2 : w22.cell? ⟨gb106, 2, none⟩ = some (.int .i64 a1_2) := (blk_cell BK106.out 2).trans rfl; have hcz25_3 : w22.cell? ⟨gb106, 3, none⟩ = some (.bool a1_3) := (blk_cell BK106.out 3).trans rfl; have hcz25_4 : w22.cell? ⟨gb106, 4, none⟩ = some (.bool a1_4) := (blk_cell BK106.out 4).trans rfl; have hcz25_5 : w22.cell? ⟨gb106, 5, none⟩ = some (.bool a1_5) := (blk_cell BK106.out 5).trans rfl; have hcz25_6 : w22.cell? ⟨gb106, 6, none⟩ = some (.bool a1_6) := (blk_cell BK106.out 6).trans rfl; have hcz25_7 : w22.cell? ⟨gb106, 7, none⟩ = some (.int .i64 a1_7) := (blk_cell BK106.out 7).trans rfl; have hcz25_8 : w22.cell? ⟨gb106, 8, none⟩ = some (.int .i64 a1_8) := (blk_cell BK106.out 8).trans rfl; have hcz25_9 : w22.cell? ⟨gb106, 9, none⟩ = some (.slice A1_9 l1_9.length c1_9) := (blk_cell BK106.out 9).trans rfl; have hcz25_10 : w22.cell? ⟨gb106, 10, none⟩ = some (.slice A1_10 l1_10.length c1_10) := (blk_cell BK106.out 10).trans rfl; have hcz25_11 : w22.cell? ⟨gb106, 11, none⟩ = some (.slice A1_11 l1_11.length c1_11) := (blk_cell BK106.out 11).trans rfl; have hcz25_12 : w22.cell? ⟨gb106, 12, none⟩ = some (.slice A1_12 l1_12.length c1_12) := (blk_cell BK106.out 12).trans rfl; have hfz25_0 := blk_frozen BK106.out 0; have hfz25_1 := blk_frozen BK106.out 1; have hfz25_2 := blk_frozen BK106.out 2; have hfz25_3 := blk_frozen BK106.out 3; have hfz25_4 := blk_frozen BK106.out 4; have hfz25_5 := blk_frozen BK106.out 5; have hfz25_6 := blk_frozen BK106.out 6; have hfz25_7 := blk_frozen BK106.out 7; have hfz25_8 := blk_frozen BK106.out 8; have hfz25_9 := blk_frozen BK106.out 9; have hfz25_10 := blk_frozen BK106.out 10; have hfz25_11 := blk_frozen BK106.out 11; have hfz25_12 := blk_frozen BK106.out 12) | (go_at_call 31; (with_reducible refine (wimplelaw0_SameQuestions.calls k _ _ l0_9 _ _ l1_9 true _ ?side1 ?side2 ?side3 ?side4 A4.out).mono ?_); (case side1 => repeat (first | exact (Kd.C_below HR0_9.out HB.out) | (with_reducible refine Kd.C_alloc ?_ _) | (with_reducible refine Kd.C_drewN ?_ _) | (with_reducible refine Kd.C_drew ?_))); (case side2 => exact HC0_9.out); (case side3 => repeat (first | exact (Kd.C_below HR1_9.out HB.out) | (with_reducible refine Kd.C_alloc ?_ _) | (with_reducible refine Kd.C_drewN ?_ _) | (with_reducible refine Kd.C_drew ?_))); (case side4 => exact HC1_9.out); rintro e w' ⟨rfl, ⟨nd, rfl⟩⟩) | (go_at_call 44; (with_reducible refine (wimplelaw0_SameRrs.calls k _ _ l0_10 _ _ l1_10 false _ ?side1 ?side2 ?side3 ?side4 A6.out).mono ?_); (case side1 => repeat (first | exact (Kd.C_below HR0_10.out (by repeat (first | (with_reducible first | exact HB.out | apply below_alloc | apply pw_below_drewN | apply below_drew1 | refine below_set ?_ GE105.out | refine below_set ?_ GE106.out) | exact HB.out))) | (with_reducible refine Kd.C_alloc ?_ _) | (with_reducible refine Kd.C_drewN ?_ _) | (with_reducible refine Kd.C_drew ?_))); (case side2 => exact HC0_10.out); (case side3 => repeat (first | exact (Kd.C_below HR1_10.out (by repeat (first | (with_reducible first | exact HB.out | apply below_alloc | apply pw_below_drewN | apply below_drew1 | refine below_set ?_ GE105.out | refine below_set ?_ GE106.out) | exact HB.out))) | (with_reducible refine Kd.C_alloc ?_ _) | (with_reducible refine Kd.C_drewN ?_ _) | (with_reducible refine Kd.C_drew ?_))); (case side4 => exact HC1_10.out); rintro e w' ⟨rfl, ⟨nd, rfl⟩⟩))
        go_ret
        exact ⟨by first | rfl | (simp [errW_none, errW_some] <;> rfl) | (simp [*, errW_none, errW_some] <;> rfl), by repeat (first | (with_reducible first | exact HB.out | apply below_alloc | apply pw_below_drewN | apply below_drew1 | refine below_set ?_ GE105.out | refine below_set ?_ GE106.out) | exact HB.out)⟩
    · replace c5 := Bool.eq_false_iff.mpr c5
      subst c5
      have H1 : (some false) = some r := by rw [if_neg (show ¬ (false = true) by decide)] at H; exact H
      clear H
      have H := H1
      clear H1
      obtain rfl := Option.some.inj H
      go_enter Try.func20, Try.ntmps20
      go_wp2_with (first | ((with_reducible refine gate_dst (N := 2) rfl ?_); refine box_event ?hg (N := 2) ?hd (cs := #[.int .i64 a0_0, .bool a0_1, .int .i64 a0_2, .bool a0_3, .bool a0_4, .bool a0_5, .bool a0_6, .int .i64 a0_7, .int .i64 a0_8, .slice A0_9 l0_9.length c0_9, .slice A0_10 l0_10.length c0_10, .slice A0_11 l0_11.length c0_11, .slice A0_12 l0_12.length c0_12]) (t := 27) ?hr ?_; (case hd => rfl); (case hg => rfl); (case hr => first | (go_simp; done) | (go_simp; rfl)); intro gb105 hg w26 hbox hb; have n0_ := Aside0.mk (below_step (by repeat (first | (with_reducible first | exact HB.out | apply below_alloc | apply pw_below_drewN | apply below_drew1) | exact HB.out)) hb); have n1_ := Aside0.mk (hbox); have n2_ := Aside0.mk ((by rw [hg]; exact (below_size (by repeat (first | (with_reducible first | exact HB.out | apply below_alloc | apply pw_below_drewN | apply below_drew1) | exact HB.out))) : w.heap.size ≤ gb105)); have n3_ := Aside0.mk ((by rw [hg]; exact (below_size (by repeat (first | (with_reducible first | exact HB.out | apply below_alloc | apply pw_below_drewN | apply below_drew1) | exact HB.out))) : w.heap.size ≤ gb105)); clear HB; have HB := n0_; have BK105 := n1_; have GW105 := n2_; have GE105 := n3_; clear n0_ n1_ n2_ n3_; clear hb hbox hg) | ((with_reducible refine gate_dst (N := 3) rfl ?_); refine box_event ?hg (N := 3) ?hd (cs := #[.int .i64 a1_0, .bool a1_1, .int .i64 a1_2, .bool a1_3, .bool a1_4, .bool a1_5, .bool a1_6, .int .i64 a1_7, .int .i64 a1_8, .slice A1_9 l1_9.length c1_9, .slice A1_10 l1_10.length c1_10, .slice A1_11 l1_11.length c1_11, .slice A1_12 l1_12.length c1_12]) (t := 27) ?hr ?_; (case hd => rfl); (case hg => rfl); (case hr => first | (go_simp; done) | (go_simp; rfl)); intro gb106 hg w27 hbox hb; have n0_ := Aside0.mk (blk_below (g := gb105) (o := .cells #[.int .i64 a0_0, .bool a0_1, .int .i64 a0_2, .bool a0_3, .bool a0_4, .bool a0_5, .bool a0_6, .int .i64 a0_7, .int .i64 a0_8, .slice A0_9 l0_9.length c0_9, .slice A0_10 l0_10.length c0_10, .slice A0_11 l0_11.length c0_11, .slice A0_12 l0_12.length c0_12] 27 (0, 0)) (by (with_reducible repeat (first | refine blk_drewN ?_ _ | refine blk_drew ?_ | refine blk_alloc ?_ _)); exact BK105.out) hb); have n1_ := Aside0.mk (below_step (by repeat (first | (with_reducible first | exact HB.out | apply below_alloc | apply pw_below_drewN | apply below_drew1 | refine below_set ?_ GE105.out) | exact HB.out)) hb); have n2_ := Aside0.mk (hbox); have n3_ := Aside0.mk ((by rw [hg]; exact (below_size (by repeat (first | (with_reducible first | exact HB.out | apply below_alloc | apply pw_below_drewN | apply below_drew1 | refine below_set ?_ GE105.out) | exact HB.out))) : w.heap.size ≤ gb106)); have n4_ := Aside0.mk ((by rw [hg]; exact (below_size (by repeat (first | (with_reducible first | exact HB.out | apply below_alloc | apply pw_below_drewN | apply below_drew1 | refine below_set ?_ GE105.out) | exact HB.out))) : w.heap.size ≤ gb106)); have n5_ := Aside0.mk ((by rw [hg]; exact Nat.ne_of_lt (blk_lt (g := gb105) (o := .cells #[.int .i64 a0_0, .bool a0_1, .int .i64 a0_2, .bool a0_3, .bool a0_4, .bool a0_5, .bool a0_6, .int .i64 a0_7, .int .i64 a0_8, .slice A0_9 l0_9.length c0_9, .slice A0_10 l0_10.length c0_10, .slice A0_11 l0_11.length c0_11, .slice A0_12 l0_12.length c0_12] 27 (0, 0)) (by (with_reducible repeat (first | refine blk_drewN ?_ _ | refine blk_drew ?_ | refine blk_alloc ?_ _)); exact BK105.out)) : gb105 ≠ gb106)); have n6_ := Aside0.mk ((by rw [hg]; exact Nat.ne_of_gt (blk_lt (g := gb105) (o := .cells #[.int .i64 a0_0, .bool a0_1, .int .i64 a0_2, .bool a0_3, .bool a0_4, .bool a0_5, .bool a0_6, .int .i64 a0_7, .int .i64 a0_8, .slice A0_9 l0_9.length c0_9, .slice A0_10 l0_10.length c0_10, .slice A0_11 l0_11.length c0_11, .slice A0_12 l0_12.length c0_12] 27 (0, 0)) (by (with_reducible repeat (first | refine blk_drewN ?_ _ | refine blk_drew ?_ | refine blk_alloc ?_ _)); exact BK105.out)) : gb106 ≠ gb105)); clear BK105; clear HB; have BK105 := n0_; have HB := n1_; have BK106 := n2_; have GW106 := n3_; have GE106 := n4_; have NB105_106 := n5_; have NB106_105 := n6_; clear n0_ n1_ n2_ n3_ n4_ n5_ n6_; clear hb hbox hg; have hnb28 := NB105_106.out; have hnc28 := NB106_105.out; (try clear hcz14_0 hcz14_1 hcz14_2 hcz14_3 hcz14_4 hcz14_5 hcz14_6 hcz14_7 hcz14_8 hcz14_9 hcz14_10 hcz14_11 hcz14_12 hfz14_0 hfz14_1 hfz14_2 hfz14_3 hfz14_4 hfz14_5 hfz14_6 hfz14_7 hfz14_8 hfz14_9 hfz14_10 hfz14_11 hfz14_12); (try clear hcz15_0 hcz15_1 hcz15_2 hcz15_3 hcz15_4 hcz15_5 hcz15_6 hcz15_7 hcz15_8 hcz15_9 hcz15_10 hcz15_11 hcz15_12 hfz15_0 hfz15_1 hfz15_2 hfz15_3 hfz15_4 hfz15_5 hfz15_6 hfz15_7 hfz15_8 hfz15_9 hfz15_10 hfz15_11 hfz15_12); (try clear hcz19_0 hcz19_1 hcz19_2 hcz19_3 hcz19_4 hcz19_5 hcz19_6 hcz19_7 hcz19_8 hcz19_9 hcz19_10 hcz19_11 hcz19_12 hfz19_0 hfz19_1 hfz19_2 hfz19_3 hfz19_4 hfz19_5 hfz19_6 hfz19_7 hfz19_8 hfz19_9 hfz19_10 hfz19_11 hfz19_12); (try clear hcz20_0 hcz20_1 hcz20_2 hcz20_3 hcz20_4 hcz20_5 hcz20_6 hcz20_7 hcz20_8 hcz20_9 hcz20_10 hcz20_11 hcz20_12 hfz20_0 hfz20_1 hfz20_2 hfz20_3 hfz20_4 hfz20_5 hfz20_6 hfz20_7 hfz20_8 hfz20_9 hfz20_10 hfz20_11 hfz20_12); (try clear hcz24_0 hcz24_1 hcz24_2 hcz24_3 hcz24_4 hcz24_5 hcz24_6 hcz24_7 hcz24_8 hcz24_9 hcz24_10 hcz24_11 hcz24_12 hfz24_0 hfz24_1 hfz24_2 hfz24_3 hfz24_4 hfz24_5 hfz24_6 hfz24_7 hfz24_8 hfz24_9 hfz24_10 hfz24_11 hfz24_12); (try clear hcz25_0 hcz25_1 hcz25_2 hcz25_3 hcz25_4 hcz25_5 hcz25_6 hcz25_7 hcz25_8 hcz25_9 hcz25_10 hcz25_11 hcz25_12 hfz25_0 hfz25_1 hfz25_2 hfz25_3 hfz25_4 hfz25_5 hfz25_6 hfz25_7 hfz25_8 hfz25_9 hfz25_10 hfz25_11 hfz25_12); have hcz29_0 : w27.cell? ⟨gb105, 0, none⟩ = some (.int .i64 a0_0) := (blk_cell BK105.out 0).trans rfl; have hcz29_1 : w27.cell? ⟨gb105, 1, none⟩ = some (.bool a0_1) := (blk_cell BK105.out 1).trans rfl; have hcz29_2 : w27.cell? ⟨gb105, 2, none⟩ = some (.int .i64 a0_2) := (blk_cell BK105.out 2).trans rfl; have hcz29_3 : w27.cell? ⟨gb105, 3, none⟩ = some (.bool a0_3) := (blk_cell BK105.out 3).trans rfl; have hcz29_4 : w27.cell? ⟨gb105, 4, none⟩ = some (.bool a0_4) := (blk_cell BK105.out 4).trans rfl; have hcz29_5 : w27.cell? ⟨gb105, 5, none⟩ = some (.bool a0_5) := (blk_cell BK105.out 5).trans rfl; have hcz29_6 : w27.cell? ⟨gb105, 6, none⟩ = some (.bool a0_6) := (blk_cell BK105.out 6).trans rfl; have hcz29_7 : w27.cell? ⟨gb105, 7, none⟩ = some (.int .i64 a0_7) := (blk_cell BK105.out 7).trans rfl; have hcz29_8 : w27.cell? ⟨gb105, 8, none⟩ = some (.int .i64 a0_8) := (blk_cell BK105.out 8).trans rfl; have hcz29_9 : w27.cell? ⟨gb105, 9, none⟩ = some (.slice A0_9 l0_9.length c0_9) := (blk_cell BK105.out 9).trans rfl; have hcz29_10 : w27.cell? ⟨gb105, 10, none⟩ = some (.slice A0_10 l0_10.length c0_10) := (blk_cell BK105.out 10).trans rfl; have hcz29_11 : w27.cell? ⟨gb105, 11, none⟩ = some (.slice A0_11 l0_11.length c0_11) := (blk_cell BK105.out 11).trans rfl; have hcz29_12 : w27.cell? ⟨gb105, 12, none⟩ = some (.slice A0_12 l0_12.length c0_12) := (blk_cell BK105.out 12).trans rfl; have hfz29_0 := blk_frozen BK105.out 0; have hfz29_1 := blk_frozen BK105.out 1; have hfz29_2 := blk_frozen BK105.out 2; have hfz29_3 := blk_frozen BK105.out 3; have hfz29_4 := blk_frozen BK105.out 4; have hfz29_5 := blk_frozen BK105.out 5; have hfz29_6 := blk_frozen BK105.out 6; have hfz29_7 := blk_frozen BK105.out 7; have hfz29_8 := blk_frozen BK105.out 8; have hfz29_9 := blk_frozen BK105.out 9; have hfz29_10 := blk_frozen BK105.out 10; have hfz29_11 := blk_frozen BK105.out 11; have hfz29_12 := blk_frozen BK105.out 12; (try clear hcz15_0 hcz15_1 hcz15_2 hcz15_3 hcz15_4 hcz15_5 hcz15_6 hcz15_7 hcz15_8 hcz15_9 hcz15_10 hcz15_11 hcz15_12 hfz15_0 hfz15_1 hfz15_2 hfz15_3 hfz15_4 hfz15_5 hfz15_6 hfz15_7 hfz15_8 hfz15_9 hfz15_10 hfz15_11 hfz15_12); (try clear hcz19_0 hcz19_1 hcz19_2 hcz19_3 hcz19_4 hcz19_5 hcz19_6 hcz19_7 hcz19_8 hcz19_9 hcz19_10 hcz19_11 hcz19_12 hfz19_0 hfz19_1 hfz19_2 hfz19_3 hfz19_4 hfz19_5 hfz19_6 hfz19_7 hfz19_8 hfz19_9 hfz19_10 hfz19_11 hfz19_12); (try clear hcz20_0 hcz20_1 hcz20_2 hcz20_3 hcz20_4 hcz20_5 hcz20_6 hcz20_7 hcz20_8 hcz20_9 hcz20_10 hcz20_11 hcz20_12 hfz20_0 hfz20_1 hfz20_2 hfz20_3 hfz20_4 hfz20_5 hfz20_6 hfz20_7 hfz20_8 hfz20_9 hfz20_10 hfz20_11 hfz20_12); (try clear hcz24_0 hcz24_1 hcz24_2 hcz24_3 hcz24_4 hcz24_5 hcz24_6 hcz24_7 hcz24_8 hcz24_9 hcz24_10 hcz24_11 hcz24_12 hfz24_0 hfz24_1 hfz24_2 hfz24_3 hfz24_4 hfz24_5 hfz24_6 hfz24_7 hfz24_8 hfz24_9 hfz24_10 hfz24_11 hfz24_12); (try clear hcz25_0 hcz25_1 hcz25_2 hcz25_3 hcz25_4 hcz25_5 hcz25_6 hcz25_7 hcz25_8 hcz25_9 hcz25_10 hcz25_11 hcz25_12 hfz25_0 hfz25_1 hfz25_2 hfz25_3 hfz25_4 hfz25_5 hfz25_6 hfz25_7 hfz25_8 hfz25_9 hfz25_10 hfz25_11 hfz25_12); have hcz30_0 : w27.cell? ⟨gb106, 0, none⟩ = some (.int .i64 a1_0) := (blk_cell BK106.out 0).trans rfl; have hcz30_1 : w27.cell? ⟨gb106, 1, none⟩ = some (.bool a1_1) := (blk_cell BK106.out 1).trans rfl; have hcz30_2 : w27.cell? ⟨gb106, 2, none⟩ = some (.int .i64 a1_2) := (blk_cell BK106.out 2).trans rfl; have hcz30_3 : w27.cell? ⟨gb106, 3, none⟩ = some (.bool a1_3) := (blk_cell BK106.out 3).trans rfl; have hcz30_4 : w27.cell? ⟨gb106, 4, none⟩ = some (.bool a1_4) := (blk_cell BK106.out 4).trans rfl; have hcz30_5 : w27.cell? ⟨gb106, 5, none⟩ = some (.bool a1_5) := (blk_cell BK106.out 5).trans rfl; have hcz30_6 : w27.cell? ⟨gb106, 6, none⟩ = some (.bool a1_6) := (blk_cell BK106.out 6).trans rfl; have hcz30_7 : w27.cell? ⟨gb106, 7, none⟩ = some (.int .i64 a1_7) := (blk_cell BK106.out 7).trans rfl; have hcz30_8 : w27.cell? ⟨gb106, 8, none⟩ = some (.int .i64 a1_8) := (blk_cell BK106.out 8).trans rfl; have hcz30_9 : w27.cell? ⟨gb106, 9, none⟩ = some (.slice A1_9 l1_9.length c1_9) := (blk_cell BK106.out 9).trans rfl; have hcz30_10 : w27.cell? ⟨gb106, 10, none⟩ = some (.slice A1_10 l1_10.length c1_10) := (blk_cell BK106.out 10).trans rfl; have hcz30_11 : w27.cell? ⟨gb106, 11, none⟩ = some (.slice A1_11 l1_11.length c1_11) := (blk_cell BK106.out 11).trans rfl; have hcz30_12 : w27.cell? ⟨gb106, 12, none⟩ = some (.slice A1_12 l1_12.length c1_12) := (blk_cell BK106.out 12).trans rfl; have hfz30_0 := blk_frozen BK106.out 0; have hfz30_1 := blk_frozen BK106.out 1; have hfz30_2 := blk_frozen BK106.out 2; have hfz30_3 := blk_frozen BK106.out 3; have hfz30_4 := blk_frozen BK106.out 4; have hfz30_5 := blk_frozen BK106.out 5; have hfz30_6 := blk_frozen BK106.out 6; have hfz30_7 := blk_frozen BK106.out 7; have hfz30_8 := blk_frozen BK106.out 8; have hfz30_9 := blk_frozen BK106.out 9; have hfz30_10 := blk_frozen BK106.out 10; have hfz30_11 := blk_frozen BK106.out 11; have hfz30_12 := blk_frozen BK106.out 12) | (go_at_call 31; (with_reducible refine (wimplelaw0_SameQuestions.calls k _ _ l0_9 _ _ l1_9 false _ ?side1 ?side2 ?side3 ?side4 A4.out).mono ?_); (case side1 => repeat (first | exact (Kd.C_below HR0_9.out HB.out) | (with_reducible refine Kd.C_alloc ?_ _) | (with_reducible refine Kd.C_drewN ?_ _) | (with_reducible refine Kd.C_drew ?_))); (case side2 => exact HC0_9.out); (case side3 => repeat (first | exact (Kd.C_below HR1_9.out HB.out) | (with_reducible refine Kd.C_alloc ?_ _) | (with_reducible refine Kd.C_drewN ?_ _) | (with_reducible refine Kd.C_drew ?_))); (case side4 => exact HC1_9.out); rintro e w' ⟨rfl, ⟨nd, rfl⟩⟩))
      go_ret
      exact ⟨by first | rfl | (simp [errW_none, errW_some] <;> rfl) | (simp [*, errW_none, errW_some] <;> rfl), by repeat (first | (with_reducible first | exact HB.out | apply below_alloc | apply pw_below_drewN | apply below_drew1 | refine below_set ?_ GE105.out | refine below_set ?_ GE106.out) | exact HB.out)⟩
  · rw [if_neg c3] at H
    have c3b0 : (a0_0 == a1_0 && (a0_1 == a1_1 && (a0_2 == a1_2 && (a0_3 == a1_3 && (a0_4 == a1_4 && (a0_5 == a1_5 && (a0_6 == a1_6 && (a0_7 == a1_7 && (a0_8 == a1_8))))))))) = false := by simpa using c3
    (try (have c3b1 : decide (a0_0 = a1_0 && (a0_1 == a1_1 && (a0_2 == a1_2 && (a0_3 == a1_3 && (a0_4 == a1_4 && (a0_5 == a1_5 && (a0_6 == a1_6 && (a0_7 == a1_7 && (a0_8 == a1_8))))))))) = false := by simpa using c3))
    (try (have c3b2 : (a0_0 == a1_0 && (a0_1 == a1_1 && (a0_2 == a1_2 && (a0_3 == a1_3 && (a0_4 == a1_4 && (a0_5 == a1_5 && (a0_6 == a1_6 && (a0_7 == a1_7 && (a0_8 == a1_8))))))))) = false := by simpa using c3))
    (try (have c3b3 : ¬ (a0_0 = a1_0 && (a0_1 == a1_1 && (a0_2 == a1_2 && (a0_3 == a1_3 && (a0_4 == a1_4 && (a0_5 == a1_5 && (a0_6 == a1_6 && (a0_7 == a1_7 && (a0_8 == a1_8))))))))) := by simpa using c3))
    clear c3
    obtain rfl := Option.some.inj H
    go_enter Try.func20, Try.ntmps20
    go_wp2_with (first | ((with_reducible refine gate_dst (N := 2) rfl ?_); refine box_event ?hg (N := 2) ?hd (cs := #[.int .i64 a0_0, .bool a0_1, .int .i64 a0_2, .bool a0_3, .bool a0_4, .bool a0_5, .bool a0_6, .int .i64 a0_7, .int .i64 a0_8, .slice A0_9 l0_9.length c0_9, .slice A0_10 l0_10.length c0_10, .slice A0_11 l0_11.length c0_11, .slice A0_12 l0_12.length c0_12]) (t := 27) ?hr ?_; (case hd => rfl); (case hg => rfl); (case hr => first | (go_simp; done) | (go_simp; rfl)); intro gb105 hg w31 hbox hb; have n0_ := Aside0.mk (below_step (by repeat (first | (with_reducible first | exact HB.out | apply below_alloc | apply pw_below_drewN | apply below_drew1) | exact HB.out)) hb); have n1_ := Aside0.mk (hbox); have n2_ := Aside0.mk ((by rw [hg]; exact (below_size (by repeat (first | (with_reducible first | exact HB.out | apply below_alloc | apply pw_below_drewN | apply below_drew1) | exact HB.out))) : w.heap.size ≤ gb105)); have n3_ := Aside0.mk ((by rw [hg]; exact (below_size (by repeat (first | (with_reducible first | exact HB.out | apply below_alloc | apply pw_below_drewN | apply below_drew1) | exact HB.out))) : w.heap.size ≤ gb105)); clear HB; have HB := n0_; have BK105 := n1_; have GW105 := n2_; have GE105 := n3_; clear n0_ n1_ n2_ n3_; clear hb hbox hg) | ((with_reducible refine gate_dst (N := 3) rfl ?_); refine box_event ?hg (N := 3) ?hd (cs := #[.int .i64 a1_0, .bool a1_1, .int .i64 a1_2, .bool a1_3, .bool a1_4, .bool a1_5, .bool a1_6, .int .i64 a1_7, .int .i64 a1_8, .slice A1_9 l1_9.length c1_9, .slice A1_10 l1_10.length c1_10, .slice A1_11 l1_11.length c1_11, .slice A1_12 l1_12.length c1_12]) (t := 27) ?hr ?_; (case hd => rfl); (case hg => rfl); (case hr => first | (go_simp; done) | (go_simp; rfl)); intro gb106 hg w32 hbox hb; have n0_ := Aside0.mk (blk_below (g := gb105) (o := .cells #[.int .i64 a0_0, .bool a0_1, .int .i64 a0_2, .bool a0_3, .bool a0_4, .bool a0_5, .bool a0_6, .int .i64 a0_7, .int .i64 a0_8, .slice A0_9 l0_9.length c0_9, .slice A0_10 l0_10.length c0_10, .slice A0_11 l0_11.length c0_11, .slice A0_12 l0_12.length c0_12] 27 (0, 0)) (by (with_reducible repeat (first | refine blk_drewN ?_ _ | refine blk_drew ?_ | refine blk_alloc ?_ _)); exact BK105.out) hb); have n1_ := Aside0.mk (below_step (by repeat (first | (with_reducible first | exact HB.out | apply below_alloc | apply pw_below_drewN | apply below_drew1 | refine below_set ?_ GE105.out) | exact HB.out)) hb); have n2_ := Aside0.mk (hbox); have n3_ := Aside0.mk ((by rw [hg]; exact (below_size (by repeat (first | (with_reducible first | exact HB.out | apply below_alloc | apply pw_below_drewN | apply below_drew1 | refine below_set ?_ GE105.out) | exact HB.out))) : w.heap.size ≤ gb106)); have n4_ := Aside0.mk ((by rw [hg]; exact (below_size (by repeat (first | (with_reducible first | exact HB.out | apply below_alloc | apply pw_below_drewN | apply below_drew1 | refine below_set ?_ GE105.out) | exact HB.out))) : w.heap.size ≤ gb106)); have n5_ := Aside0.mk ((by rw [hg]; exact Nat.ne_of_lt (blk_lt (g := gb105) (o := .cells #[.int .i64 a0_0, .bool a0_1, .int .i64 a0_2, .bool a0_3, .bool a0_4, .bool a0_5, .bool a0_6, .int .i64 a0_7, .int .i64 a0_8, .slice A0_9 l0_9.length c0_9, .slice A0_10 l0_10.length c0_10, .slice A0_11 l0_11.length c0_11, .slice A0_12 l0_12.length c0_12] 27 (0, 0)) (by (with_reducible repeat (first | refine blk_drewN ?_ _ | refine blk_drew ?_ | refine blk_alloc ?_ _)); exact BK105.out)) : gb105 ≠ gb106)); have n6_ := Aside0.mk ((by rw [hg]; exact Nat.ne_of_gt (blk_lt (g := gb105) (o := .cells #[.int .i64 a0_0, .bool a0_1, .int .i64 a0_2, .bool a0_3, .bool a0_4, .bool a0_5, .bool a0_6, .int .i64 a0_7, .int .i64 a0_8, .slice A0_9 l0_9.length c0_9, .slice A0_10 l0_10.length c0_10, .slice A0_11 l0_11.length c0_11, .slice A0_12 l0_12.length c0_12] 27 (0, 0)) (by (with_reducible repeat (first | refine blk_drewN ?_ _ | refine blk_drew ?_ | refine blk_alloc ?_ _)); exact BK105.out)) : gb106 ≠ gb105)); clear BK105; clear HB; have BK105 := n0_; have HB := n1_; have BK106 := n2_; have GW106 := n3_; have GE106 := n4_; have NB105_106 := n5_; have NB106_105 := n6_; clear n0_ n1_ n2_ n3_ n4_ n5_ n6_; clear hb hbox hg; have hnb33 := NB105_106.out; have hnc33 := NB106_105.out; (try clear hcz19_0 hcz19_1 hcz19_2 hcz19_3 hcz19_4 hcz19_5 hcz19_6 hcz19_7 hcz19_8 hcz19_9 hcz19_10 hcz19_11 hcz19_12 hfz19_0 hfz19_1 hfz19_2 hfz19_3 hfz19_4 hfz19_5 hfz19_6 hfz19_7 hfz19_8 hfz19_9 hfz19_10 hfz19_11 hfz19_12); (try clear hcz20_0 hcz20_1 hcz20_2 hcz20_3 hcz20_4 hcz20_5 hcz20_6 hcz20_7 hcz20_8 hcz20_9 hcz20_10 hcz20_11 hcz20_12 hfz20_0 hfz20_1 hfz20_2 hfz20_3 hfz20_4 hfz20_5 hfz20_6 hfz20_7 hfz20_8 hfz20_9 hfz20_10 hfz20_11 hfz20_12); (try clear hcz24_0 hcz24_1 hcz24_2 hcz24_3 hcz24_4 hcz24_5 hcz24_6 hcz24_7 hcz24_8 hcz24_9 hcz24_10 hcz24_11 hcz24_12 hfz24_0 hfz24_1 hfz24_2 hfz24_3 hfz24_4 hfz24_5 hfz24_6 hfz24_7 hfz24_8 hfz24_9 hfz24_10 hfz24_11 hfz24_12); (try clear hcz25_0 hcz25_1 hcz25_2 hcz25_3 hcz25_4 hcz25_5 hcz25_6 hcz25_7 hcz25_8 hcz25_9 hcz25_10 hcz25_11 hcz25_12 hfz25_0 hfz25_1 hfz25_2 hfz25_3 hfz25_4 hfz25_5 hfz25_6 hfz25_7 hfz25_8 hfz25_9 hfz25_10 hfz25_11 hfz25_12); (try clear hcz29_0 hcz29_1 hcz29_2 hcz29_3 hcz29_4 hcz29_5 hcz29_6 hcz29_7 hcz29_8 hcz29_9 hcz29_10 hcz29_11 hcz29_12 hfz29_0 hfz29_1 hfz29_2 hfz29_3 hfz29_4 hfz29_5 hfz29_6 hfz29_7 hfz29_8 hfz29_9 hfz29_10 hfz29_11 hfz29_12); (try clear hcz30_0 hcz30_1 hcz30_2 hcz30_3 hcz30_4 hcz30_5 hcz30_6 hcz30_7 hcz30_8 hcz30_9 hcz30_10 hcz30_11 hcz30_12 hfz30_0 hfz30_1 hfz30_2 hfz30_3 hfz30_4 hfz30_5 hfz30_6 hfz30_7 hfz30_8 hfz30_9 hfz30_10 hfz30_11 hfz30_12); have hcz34_0 : w32.cell? ⟨gb105, 0, none⟩ = some (.int .i64 a0_0) := (blk_cell BK105.out 0).trans rfl; have hcz34_1 : w32.cell? ⟨gb105, 1, none⟩ = some (.bool a0_1) := (blk_cell BK105.out 1).trans rfl; have hcz34_2 : w32.cell? ⟨gb105, 2, none⟩ = some (.int .i64 a0_2) := (blk_cell BK105.out 2).trans rfl; have hcz34_3 : w32.cell? ⟨gb105, 3, none⟩ = some (.bool a0_3) := (blk_cell BK105.out 3).trans rfl; have hcz34_4 : w32.cell? ⟨gb105, 4, none⟩ = some (.bool a0_4) := (blk_cell BK105.out 4).trans rfl; have hcz34_5 : w32.cell? ⟨gb105, 5, none⟩ = some (.bool a0_5) := (blk_cell BK105.out 5).trans rfl; have hcz34_6 : w32.cell? ⟨gb105, 6, none⟩ = some (.bool a0_6) := (blk_cell BK105.out 6).trans rfl; have hcz34_7 : w32.cell? ⟨gb105, 7, none⟩ = some (.int .i64 a0_7) := (blk_cell BK105.out 7).trans rfl; have hcz34_8 : w32.cell? ⟨gb105, 8, none⟩ = some (.int .i64 a0_8) := (blk_cell BK105.out 8).trans rfl; have hcz34_9 : w32.cell? ⟨gb105, 9, none⟩ = some (.slice A0_9 l0_9.length c0_9) := (blk_cell BK105.out 9).trans rfl; have hcz34_10 : w32.cell? ⟨gb105, 10, none⟩ = some (.slice A0_10 l0_10.length c0_10) := (blk_cell BK105.out 10).trans rfl; have hcz34_11 : w32.cell? ⟨gb105, 11, none⟩ = some (.slice A0_11 l0_11.length c0_11) := (blk_cell BK105.out 11).trans rfl; have hcz34_12 : w32.cell? ⟨gb105, 12, none⟩ = some (.slice A0_12 l0_12.length c0_12) := (blk_cell BK105.out 12).trans rfl; have hfz34_0 := blk_frozen BK105.out 0; have hfz34_1 := blk_frozen BK105.out 1; have hfz34_2 := blk_frozen BK105.out 2; have hfz34_3 := blk_frozen BK105.out 3; have hfz34_4 := blk_frozen BK105.out 4; have hfz34_5 := blk_frozen BK105.out 5; have hfz34_6 := blk_frozen BK105.out 6; have hfz34_7 := blk_frozen BK105.out 7; have hfz34_8 := blk_frozen BK105.out 8; have hfz34_9 := blk_frozen BK105.out 9; have hfz34_10 := blk_frozen BK105.out 10; have hfz34_11 := blk_frozen BK105.out 11; have hfz34_12 := blk_frozen BK105.out 12; (try clear hcz20_0 hcz20_1 hcz20_2 hcz20_3 hcz20_4 hcz20_5 hcz20_6 hcz20_7 hcz20_8 hcz20_9 hcz20_10 hcz20_11 hcz20_12 hfz20_0 hfz20_1 hfz20_2 hfz20_3 hfz20_4 hfz20_5 hfz20_6 hfz20_7 hfz20_8 hfz20_9 hfz20_10 hfz20_11 hfz20_12); (try clear hcz24_0 hcz24_1 hcz24_2 hcz24_3 hcz24_4 hcz24_5 hcz24_6 hcz24_7 hcz24_8 hcz24_9 hcz24_10 hcz24_11 hcz24_12 hfz24_0 hfz24_1 hfz24_2 hfz24_3 hfz24_4 hfz24_5 hfz24_6 hfz24_7 hfz24_8 hfz24_9 hfz24_10 hfz24_11 hfz24_12); (try clear hcz25_0 hcz25_1 hcz25_2 hcz25_3 hcz25_4 hcz25_5 hcz25_6 hcz25_7 hcz25_8 hcz25_9 hcz25_10 hcz25_11 hcz25_12 hfz25_0 hfz25_1 hfz25_2 hfz25_3 hfz25_4 hfz25_5 hfz25_6 hfz25_7 hfz25_8 hfz25_9 hfz25_10 hfz25_11 hfz25_12); (try clear hcz29_0 hcz29_1 hcz29_2 hcz29_3 hcz29_4 hcz29_5 hcz29_6 hcz29_7 hcz29_8 hcz29_9 hcz29_10 hcz29_11 hcz29_12 hfz29_0 hfz29_1 hfz29_2 hfz29_3 hfz29_4 hfz29_5 hfz29_6 hfz29_7 hfz29_8 hfz29_9 hfz29_10 hfz29_11 hfz29_12); (try clear hcz30_0 hcz30_1 hcz30_2 hcz30_3 hcz30_4 hcz30_5 hcz30_6 hcz30_7 hcz30_8 hcz30_9 hcz30_10 hcz30_11 hcz30_12 hfz30_0 hfz30_1 hfz30_2 hfz30_3 hfz30_4 hfz30_5 hfz30_6 hfz30_7 hfz30_8 hfz30_9 hfz30_10 hfz30_11 hfz30_12); have hcz35_0 : w32.cell? ⟨gb106, 0, none⟩ = some (.int .i64 a1_0) := (blk_cell BK106.out 0).trans rfl; have hcz35_1 : w32.cell? ⟨gb106, 1, none⟩ = some (.bool a1_1) := (blk_cell BK106.out 1).trans rfl; have hcz35_2 : w32.cell? ⟨gb106, 2, none⟩ = some (.int .i64 a1_2) := (blk_cell BK106.out 2).trans rfl; have hcz35_3 : w32.cell? ⟨gb106, 3, none⟩ = some (.bool a1_3) := (blk_cell BK106.out 3).trans rfl; have hcz35_4 : w32.cell? ⟨gb106, 4, none⟩ = some (.bool a1_4) := (blk_cell BK106.out 4).trans rfl; have hcz35_5 : w32.cell? ⟨gb106, 5, none⟩ = some (.bool a1_5) := (blk_cell BK106.out 5).trans rfl; have hcz35_6 : w32.cell? ⟨gb106, 6, none⟩ = some (.bool a1_6) := (blk_cell BK106.out 6).trans rfl; have hcz35_7 : w32.cell? ⟨gb106, 7, none⟩ = some (.int .i64 a1_7) := (blk_cell BK106.out 7).trans rfl; have hcz35_8 : w32.cell? ⟨gb106, 8, none⟩ = some (.int .i64 a1_8) := (blk_cell BK106.out 8).trans rfl; have hcz35_9 : w32.cell? ⟨gb106, 9, none⟩ = some (.slice A1_9 l1_9.length c1_9) := (blk_cell BK106.out 9).trans rfl; have hcz35_10 : w32.cell? ⟨gb106, 10, none⟩ = some (.slice A1_10 l1_10.length c1_10) := (blk_cell BK106.out 10).trans rfl; have hcz35_11 : w32.cell? ⟨gb106, 11, none⟩ = some (.slice A1_11 l1_11.length c1_11) := (blk_cell BK106.out 11).trans rfl; have hcz35_12 : w32.cell? ⟨gb106, 12, none⟩ = some (.slice A1_12 l1_12.length c1_12) := (blk_cell BK106.out 12).trans rfl; have hfz35_0 := blk_frozen BK106.out 0; have hfz35_1 := blk_frozen BK106.out 1; have hfz35_2 := blk_frozen BK106.out 2; have hfz35_3 := blk_frozen BK106.out 3; have hfz35_4 := blk_frozen BK106.out 4; have hfz35_5 := blk_frozen BK106.out 5; have hfz35_6 := blk_frozen BK106.out 6; have hfz35_7 := blk_frozen BK106.out 7; have hfz35_8 := blk_frozen BK106.out 8; have hfz35_9 := blk_frozen BK106.out 9; have hfz35_10 := blk_frozen BK106.out 10; have hfz35_11 := blk_frozen BK106.out 11; have hfz35_12 := blk_frozen BK106.out 12))
    go_ret
    exact ⟨by first | rfl | (simp [errW_none, errW_some] <;> rfl) | (simp [*, errW_none, errW_some] <;> rfl), by repeat (first | (with_reducible first | exact HB.out | apply below_alloc | apply pw_below_drewN | apply below_drew1 | refine below_set ?_ GE105.out | refine below_set ?_ GE106.out) | exact HB.out)⟩

/-! ### wimplelaw0_Num: function 21 -/
def wimplelaw0_Num.f (a0 : Int) : Option (Int) := some a0
set_option maxHeartbeats 8000000 in
set_option maxRecDepth 100000 in
theorem wimplelaw0_Num.calls (a0 : Int) (r : Int) (w : World) (h : wimplelaw0_Num.f a0 = some r) :
    Calls Try.prog 21 #[.int .i64 a0] w fun e w' => e = .returned (.int .i64 r) ∧ Drawn0 w w' := by
  have H : (some a0) = some r := h
  clear h
  obtain rfl := Option.some.inj H
  go_enter Try.func21, Try.ntmps21
  go_wp2
  go_ret
  exact ⟨by first | rfl | (simp; done) | (simp [*]; done), by repeat (first | exact Drawn0.refl _ | apply Drawn0.step)⟩

/-! ### wimpleref1_May: function 32 -/
def wimpleref1_May.f (a0 : ByteArray) : Option (Bool) := some (Go.Proofs.Ytjklgdpffmaamaa.Nm.nameB a0)
set_option maxHeartbeats 8000000 in
set_option maxRecDepth 100000 in
theorem wimpleref1_May.calls (a0 : ByteArray) (r : Bool) (w : World) (h : wimpleref1_May.f a0 = some r) :
    Calls Try.prog 32 #[.string a0] w fun e w' => e = .returned (.bool r) ∧ Below w.heap.size w w' := by
  unfold wimpleref1_May.f at h
  simp only [Option.some.injEq] at h
  subst h
  exact Go.Proofs.Ytjklgdpffmaamaa.Nm.rmay a0 w

end Go.Proofs.Ytjklgdpffmaamaa.PWp
